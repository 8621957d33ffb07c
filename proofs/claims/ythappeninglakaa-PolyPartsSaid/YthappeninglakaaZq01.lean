/- Limbs of 32 bits, the lowest one first: what a list of -/
import Derived.WalkKit
import Derived.WalkSpells
import Derived.WalkLawsBesides
import Derived.Lib.Hide
import Derived.Laws.OwnMore
import Derived.Deep.AppendLies
import Derived.Deep.Draws
import Derived.Laws.Rows
import Derived.Deep.OwnRows
import Derived.OwnWalk
import Derived.Handy
import Derived.IntWalk
import Derived.Maps.AppendAt
import Derived.RegionTactic
import Derived.Test.YthappeninglakaaRows
import Derived.RangeFuncBox
import Derived.RangeFuncLeaves
import Derived.RangeFuncNested
import Derived.RangeFuncCalls
import Derived.Shelf.Abstract
import Derived.OwnWalkIn
import Derived.TacticsInMore
import Derived.LoopNIn
import Derived.LoopIn
set_option maxRecDepth 100000
set_option maxHeartbeats 2000000
set_option linter.unusedSimpArgs false
set_option linter.unusedVariables false
namespace Go.Proofs.Ythappeninglakaa
def val : List Nat -> Nat
 | []=>0
 | x :: l=>x + 4294967296 * val l
def Lt32 (l : List Nat) : Prop:=∀ x ∈ l,x < 4294967296
def digits (n : Nat) : List Nat:=if h : n = 0 then [] else n % 4294967296 :: digits (n / 4294967296)
termination_by n
decreasing_by omega
def canon : List Nat -> List Nat
 | []=>[]
 | x :: l=>match canon l with
  | []=>if x = 0 then [] else [x]
  | y :: m=>x :: y :: m
def pw (k : Nat) : Nat:=4294967296 ^ k
theorem Zdh : pw 0 = 1:=rfl
theorem Zal (k : Nat) : pw (k + 1) = 4294967296 * pw k:=by unfold pw;rw [Nat.pow_succ,Nat.mul_comm]
theorem Zco (a b : Nat) : pw (a + b) = pw a * pw b:=by unfold pw;rw [Nat.pow_add]
theorem Za7 (k : Nat) : 0 < pw k:=Nat.pow_pos (by decide)
theorem Zdn {a b : Nat} (h : a <= b) : pw a <= pw b:=Nat.pow_le_pow_right (by decide) h
theorem pw_lt {a b : Nat} (h : a < b) : pw a < pw b:=Nat.pow_lt_pow_right (by decide) h
theorem Lt32.nil : Lt32 []:=fun _ h=>by cases h
theorem Lt32.cons {x : Nat} {l : List Nat} (h : x < 4294967296) (hl : Lt32 l) : Lt32 (x :: l):=fun y hy=>by
 rcases List.mem_cons.1 hy with rfl | hy
 ·exact h
 ·exact hl y hy
theorem Lt32.head {x : Nat} {l : List Nat} (h : Lt32 (x :: l)) : x < 4294967296:=h x (by simp)
theorem Lt32.tail {x : Nat} {l : List Nat} (h : Lt32 (x :: l)) : Lt32 l:=fun y hy=>h y (by simp [hy])
theorem Lt32.get {l : List Nat} (h : Lt32 l) (k : Nat) : l[k]?.getD 0 < 4294967296:=by
 rcases Nat.lt_or_ge k l.length with hk | hk
 ·rw [List.getElem?_eq_getElem hk];exact h _ (List.getElem_mem hk)
 ·rw [List.getElem?_eq_none hk];decide
theorem Lt32.take {l : List Nat} (h : Lt32 l) (k : Nat) : Lt32 (l.take k):=fun x hx=>h x (List.mem_of_mem_take hx)
theorem Lt32.drop {l : List Nat} (h : Lt32 l) (k : Nat) : Lt32 (l.drop k):=fun x hx=>h x (List.mem_of_mem_drop hx)
theorem Lt32.append {l m : List Nat} (h : Lt32 l) (h' : Lt32 m) : Lt32 (l ++ m):=fun x hx=>by
 rcases List.mem_append.1 hx with hx | hx
 ·exact h x hx
 ·exact h' x hx
theorem Lt32.set {l : List Nat} (h : Lt32 l) (k : Nat) {v : Nat} (hv : v < 4294967296) : Lt32 (l.set k v):=fun x hx=>by
 rcases List.mem_or_eq_of_mem_set hx with hx | rfl
 ·exact h x hx
 ·exact hv
theorem Lt32.replicate (n : Nat) : Lt32 (List.replicate n 0):=fun x hx=>by
 rw [(List.mem_replicate.1 hx).2];decide
theorem Zg5 (a b : List Nat) : val (a ++ b) = val a + pw a.length * val b:=by
 induction a with
 | nil=>simp [val,Zdh]
 | cons x l ih=>simp only [List.cons_append,val,ih,List.length_cons,Zal];grind
theorem Zen {l : List Nat} (h : Lt32 l) : val l < pw l.length:=by
 induction l with
 | nil=>simp [val,Zdh]
 | cons x l ih=>have:=ih h.tail;have:=h.head;simp only [val,List.length_cons,Zal];omega
theorem Zdg (n : Nat) : val (List.replicate n 0) = 0:=by
 induction n with
 | zero=>rfl
 | succ n ih=>simp [List.replicate_succ,val,ih]
theorem Zgg {l : List Nat} {k : Nat} (hk : k < l.length) (v : Nat) : val (l.set k v) + pw k * (l[k]?.getD 0) = val l + pw k * v:=by
 induction l generalizing k with
 | nil=>simp at hk
 | cons x l ih =>
  cases k with
  | zero=>simp [val,Zdh];omega
  | succ k=>have:=ih (k:=k) (by simpa using hk);simp only [List.set_cons_succ,val,List.getElem?_cons_succ,Zal];grind
theorem Zx (l : List Nat) (k : Nat) : val (l.take (k + 1)) = val (l.take k) + pw k * (l[k]?.getD 0):=by
 induction l generalizing k with
 | nil=>simp [val]
 | cons x l ih =>
  cases k with
  | zero=>simp [val,Zdh]
  | succ k=>have:=ih k;simp only [List.take_succ_cons,val,List.getElem?_cons_succ,Zal];grind
theorem Z1 {l : List Nat} {k : Nat} (h : l.length <= k) : val (l.take k) = val l:=by rw [List.take_of_length_le h]
theorem Z4 (l : List Nat) (k : Nat) (h : k <= l.length) : val l = val (l.take k) + pw k * val (l.drop k):=by
 have:=Zg5 (l.take k) (l.drop k);rw [List.take_append_drop,List.length_take,Nat.min_eq_left h] at this;exact this
theorem Z6 : digits 0 = []:=by unfold digits;simp
theorem Zcw {n : Nat} (h : n ≠ 0) : digits n = n % 4294967296 :: digits (n / 4294967296):=by rw [digits];simp [h]
theorem Zg (n : Nat) : val (digits n) = n:=by
 induction n using Nat.strongRecOn with
 | _ n ih =>
  by_cases h : n = 0
  ·subst h;rw [Z6];rfl
  ·rw [Zcw h,val,ih _ (by omega)];omega
theorem Zi0 (n : Nat) : Lt32 (digits n):=by
 induction n using Nat.strongRecOn with
 | _ n ih =>
  by_cases h : n = 0
  ·subst h;rw [Z6];exact Lt32.nil
  ·rw [Zcw h];exact (ih _ (by omega)).cons (by omega)
theorem digits_eq_nil {n : Nat} : digits n = [] ↔ n = 0:=by
 constructor
 ·intro h;have:=Zg n;rw [h] at this;exact this.symm
 ·rintro rfl;exact Z6
theorem Zfx (n : Nat) : (digits n).getLast? ≠ some 0:=by
 induction n using Nat.strongRecOn with
 | _ n ih =>
  by_cases h : n = 0
  ·subst h;rw [Z6];simp
  ·rw [Zcw h]
   have:=ih (n / 4294967296) (by omega)
   by_cases h' : n / 4294967296 = 0
   ·rw [h',Z6];simp;omega
   ·obtain ⟨y,m,hm⟩:=List.exists_cons_of_ne_nil (fun e=>h' (digits_eq_nil.1 e))
    rw [hm] at this ⊢
    simpa using this
theorem Zs (n k : Nat) : (digits n).length <= k ↔ n < pw k:=by
 induction k generalizing n with
 | zero =>
  rw [Zdh]
  constructor
  ·intro h;have:=digits_eq_nil.1 (List.eq_nil_of_length_eq_zero (Nat.le_zero.1 h));omega
  ·intro h;have : n = 0:=by omega
   subst this;rw [Z6];simp
 | succ k ih =>
  by_cases h : n = 0
  ·subst h;rw [Z6];simp [Za7]
  ·rw [Zcw h,List.length_cons,Nat.succ_le_succ_iff,ih,Zal,Nat.div_lt_iff_lt_mul (by decide),Nat.mul_comm]
theorem Zc3 (n : Nat) : n < pw (digits n).length:=(Zs n _).1 (Nat.le_refl _)
theorem Zfn {n k : Nat} (h : k < (digits n).length) : pw k <= n:=by
 rcases Nat.lt_or_ge n (pw k) with h' | h'
 ·have:=(Zs n k).2 h';omega
 ·exact h'
theorem Zy {m n : Nat} (h : m <= n) : (digits m).length <= (digits n).length:=(Zs _ _).2 (Nat.lt_of_le_of_lt h (Zc3 n))
theorem Zn9 {l : List Nat} (h : Lt32 l) : canon l = digits (val l):=by
 induction l with
 | nil=>rw [val,Z6];rfl
 | cons x l ih =>
  have hx:=h.head;rw [canon,ih h.tail,val]
  by_cases h0 : val l = 0
  ·rw [h0,Z6]
   by_cases hx0 : x = 0
   ·simp [hx0,Z6]
   ·simp only [hx0,if_false]
    rw [Zcw (by omega),show (x + 4294967296 * 0) / 4294967296 = 0 by omega,Z6,show (x + 4294967296 * 0) % 4294967296 = x by omega]
  ·rw [Zcw (n:=x + 4294967296 * val l) (by omega),show (x + 4294967296 * val l) / 4294967296 = val l by omega,show (x + 4294967296 * val l) % 4294967296 = x by omega]
   obtain ⟨y,m,hm⟩:=List.exists_cons_of_ne_nil (fun e=>h0 (digits_eq_nil.1 e));rw [hm]
theorem Zl7 {l : List Nat} (h : Lt32 l) (hl : l.getLast? ≠ some 0) : l = digits (val l):=by
 rw [<- Zn9 h]
 induction l with
 | nil=>rfl
 | cons x l ih =>
  cases l with
  | nil=>simp only [canon];simp at hl;simp [hl]
  | cons y m =>
   have:=ih h.tail (by simpa using hl);rw [canon,<- this]
theorem Ze4 {l : List Nat} {k : Nat} (hz : ∀ j,k <= j -> l[j]?.getD 0 = 0) (hk : k = 0 \/ l[k - 1]?.getD 0 ≠ 0) (hl : Lt32 l) : digits (val l) = l.take k:=by
 have hv : val l = val (l.take k):=by
  rcases Nat.lt_or_ge l.length k with h | h
  ·rw [List.take_of_length_le (by omega)]
  ·rw [Z4 l k h]
   have : val (l.drop k) = 0:=by
    have : ∀ m : List Nat,(∀ j : Nat,m[j]?.getD 0 = 0) -> val m = 0:=by
     intro m
     induction m with
     | nil=>intro _;rfl
     | cons x m ih =>
      intro hm;have h0:=hm 0;have:=ih (fun j=>by simpa using hm (j + 1))
      simp at h0
      simp [val,h0,this]
    exact this _ (fun j=>by rw [List.getElem?_drop];exact hz _ (by omega))
   rw [this];simp
 rw [hv];refine (Zl7 (hl.take k) ?_).symm
 rcases hk with rfl | hk
 ·simp
 ·intro h
  have hkl : k - 1 < l.length:=by
   rcases Nat.lt_or_ge (k - 1) l.length with h' | h'
   ·exact h'
   ·rw [List.getElem?_eq_none h'] at hk;simp at hk
  rw [List.getLast?_eq_getElem?,List.length_take] at h;rw [List.getElem?_take] at h
  split at h
  ·rename_i hlt
   rcases Nat.lt_or_ge k l.length with h' | h'
   ·rw [Nat.min_eq_left (by omega)] at h;rw [h] at hk;simp at hk
   ·have : min k l.length - 1 = k - 1:=by omega
    rw [this] at h;rw [h] at hk;simp at hk
  ·cases h
theorem val_inj {a b : List Nat} (ha : Lt32 a) (hb : Lt32 b) (hl : a.length = b.length) (h : val a = val b) : a = b:=by
 induction a generalizing b with
 | nil=>cases b with
  | nil=>rfl
  | cons _ _=>simp at hl
 | cons x a ih=>cases b with
  | nil=>simp at hl
  | cons y b =>
   have hx:=ha.head;have hy:=hb.head;simp only [val] at h
   obtain rfl : x = y:=by omega
   rw [ih ha.tail hb.tail (by simpa using hl) (by omega)]
theorem Zq2 {a b out : List Nat} {k carry s c' : Nat} (hk : k < out.length) (hz : out[k]?.getD 0 = 0) (hI : val out + pw k * carry = val (a.take k) + val (b.take k))
    (he : s + 4294967296 * c' = a[k]?.getD 0 + b[k]?.getD 0 + carry) : val (out.set k s) + pw (k + 1) * c' = val (a.take (k + 1)) + val (b.take (k + 1)):=by
 have h:=Zgg hk s;rw [hz] at h;rw [Zx,Zx,Zal]
 have : pw k * (s + 4294967296 * c') = pw k * (a[k]?.getD 0 + b[k]?.getD 0 + carry):=by rw [he]
 grind
theorem Zo8 {a b out : List Nat} {k borrow s c' : Nat} (hk : k < out.length) (hz : out[k]?.getD 0 = 0) (hI : val out + val (b.take k) = val (a.take k) + pw k * borrow)
    (he : s + b[k]?.getD 0 + borrow = a[k]?.getD 0 + 4294967296 * c') : val (out.set k s) + val (b.take (k + 1)) = val (a.take (k + 1)) + pw (k + 1) * c':=by
 have h:=Zgg hk s;rw [hz] at h;rw [Zx,Zx,Zal]
 have : pw k * (s + b[k]?.getD 0 + borrow) = pw k * (a[k]?.getD 0 + 4294967296 * c'):=by rw [he]
 grind
theorem getD_set_ne {l : List Nat} {i j : Nat} (v : Nat) (h : i ≠ j) : (l.set i v)[j]?.getD 0 = l[j]?.getD 0:=by rw [List.getElem?_set_ne h]
theorem Ziv {l : List Nat} {i : Nat} (v : Nat) (h : i < l.length) : (l.set i v)[i]?.getD 0 = v:=by rw [List.getElem?_set_self h];rfl
theorem Zbv {l : List Nat} {i : Nat} (h : l.length <= i) : l[i]?.getD 0 = 0:=by rw [List.getElem?_eq_none h];rfl
theorem Zc4 (n i : Nat) : (List.replicate n 0)[i]?.getD 0 = 0:=by
 rw [List.getElem?_replicate];split <;> rfl
theorem Zo5 {a b out : List Nat} {i k carry s q : Nat} (hk : i + k < out.length)
    (hI : val out + pw (i + k) * carry = val (a.take i) * val b + pw i * (a[i]?.getD 0 * val (b.take k)))
    (he : s + 4294967296 * q = carry + a[i]?.getD 0 * b[k]?.getD 0 + out[i + k]?.getD 0) :
    val (out.set (i + k) s) + pw (i + (k + 1)) * q = val (a.take i) * val b + pw i * (a[i]?.getD 0 * val (b.take (k + 1))):=by
 have h:=Zgg hk s;rw [Zx,show i + (k + 1) = (i + k) + 1 by omega,Zal]
 have e1 : pw (i + k) * (s + 4294967296 * q) = pw (i + k) * (carry + a[i]?.getD 0 * b[k]?.getD 0 + out[i + k]?.getD 0):=by rw [he]
 have e2:=Zco i k
 generalize pw (i + k) = P at *
 subst e2
 grind
theorem Zra {a b out : List Nat} {i carry : Nat} (hk : i + b.length < out.length) (hz : out[i + b.length]?.getD 0 = 0)
    (hI : val out + pw (i + b.length) * carry = val (a.take i) * val b + pw i * (a[i]?.getD 0 * val b)) :
    val (out.set (i + b.length) carry) = val (a.take (i + 1)) * val b:=by
 have h:=Zgg hk carry;rw [hz] at h;rw [Zx]
 grind
theorem Zti {x y z c s q : Nat} (hx : x < 4294967296) (hy : y < 4294967296) (hz : z < 4294967296) (hc : c < 4294967296) (he : s + 4294967296 * q = c + x * y + z) : q < 4294967296:=by
 have : x * y <= 4294967295 * 4294967295:=Nat.mul_le_mul (by omega) (by omega);omega
open Go.RowKit
theorem Zb {p : Prop} (h : p) : Hid p:=h
theorem Zmh (a : Addr) (n : Nat) : (a.add n).block = a.block:=by unfold Addr.add;split <;> rfl
theorem Zj (g o n : Nat) : (⟨g,o,none⟩ : Addr).add n = ⟨g,o + n,none⟩:=by
 unfold Addr.add;split
 ·subst_vars;rfl
 ·rfl
theorem Zn {w : World} {p : Addr} {v : Value} (h : w.cell? p = some v) : p.block < w.heap.size:=by
 unfold World.cell? at h
 rcases Nat.lt_or_ge p.block w.heap.size with hlt | hge
 ·exact hlt
 ·rw [Array.getElem?_eq_none hge] at h;cases h
def Blk (w : World) (g : Nat) (t : TypeId) (cs : Array Value) : Prop:=w.heap[g]? = some (.cells cs t (0,0))
section
variable {w w' : World} {g : Nat} {t : TypeId} {cs : Array Value}
theorem Blk.lt (h : Blk w g t cs) : g < w.heap.size:=by
 rcases Nat.lt_or_ge g w.heap.size with hlt | hge
 ·exact hlt
 ·unfold Blk at h;rw [Array.getElem?_eq_none hge] at h;cases h
theorem Blk.cell (h : Blk w g t cs) (i : Nat) : w.cell? ⟨g,i,none⟩ = cs[i]?:=cell_of_row w g i cs t (0,0) h
theorem Blk.frozen (h : Blk w g t cs) (i : Nat) : w.frozen? ⟨g,i,none⟩ = false:=by
 unfold Blk at h
 simp [World.frozen?,h]
theorem Blk.new (w : World) (t : TypeId) (cs : Array Value) : Blk (w.alloc (.cells cs t)) w.heap.size t cs:=heap_alloc_new w _
theorem Blk.drewN (h : Blk w g t cs) (n : Nat) : Blk (w.drewN n) g t cs:=h
theorem Blk.alloc (h : Blk w g t cs) (o : Obj) : Blk (w.alloc o) g t cs:=(Below.heap_alloc w o g h.lt).trans h
theorem Blk.set_ (h : Blk w g t cs) (i : Nat) (u : Value) : Blk (w.setCell ⟨g,i,none⟩ u) g t (cs.setIfInBounds i u):=by
 unfold Blk at h ⊢
 simp [World.setCell,Array.getElem?_modify,h]
theorem Blk.far (h : Blk w g t cs) {p : Addr} (hp : g ≠ p.block) (u : Value) : Blk (w.setCell p u) g t cs:=(Below.heap_setCell w p u g hp).trans h
theorem Blk.below {B : Nat} (h : Blk w g t cs) (hb : Below B w w') (hg : g < B) : Blk w' g t cs:=(hb.block g hg).trans h
end
theorem Zk9 {A : Option Addr} {n n' c : Nat} (h : n = n') : Ending.returned (.slice A n c) = .returned (.slice A n' c):=by rw [h]
theorem Zfa {k : IntKind} {a b : Int} (h : a = b) : Ending.returned (.int k a) = .returned (.int k b):=by rw [h]
theorem Zs7 {a b : Bool} (h : a = b) : Ending.returned (.bool a) = .returned (.bool b):=by rw [h]
abbrev limb (x : Nat) : Value:=.int .u32 (x : Int)
def Zt (l : List Nat) : Array Value:=(l.map limb).toArray
theorem Zab (l : List Nat) (i : Nat) (h : i < l.length) : (Zt l)[i]? = some (limb (l[i]?.getD 0)):=by
 simp [Zt,List.getElem?_eq_getElem h]
theorem Za8 (l : List Nat) (i v : Nat) : (Zt l).setIfInBounds i (limb v) = Zt (l.set i v):=by
 simp [Zt,List.map_set]
def Lim (w : World) (A : Option Addr) (n c : Nat) (l : List Nat) : Prop:=
 l.length = n /\ n <= c /\ c <= maxLen /\ Lt32 l /\ (0 < n -> ∃ b o,A = some ⟨b,o,none⟩ /\ ∀ k,k < n -> w.cell? ⟨b,o + k,none⟩ = some (limb (l[k]?.getD 0)))
section
variable {w w' : World} {A : Option Addr} {n c : Nat} {l : List Nat}
theorem Lim.len (h : Lim w A n c l) : l.length = n:=h.1
theorem Lim.lt (h : Lim w A n c l) : Lt32 l:=h.2.2.2.1
theorem Lim.nil (w : World) (A : Option Addr) (c : Nat) (hc : c <= maxLen) : Lim w A 0 c []:=⟨rfl,Nat.zero_le _,hc,Lt32.nil,fun h=>absurd h (by omega)⟩
theorem Lim.at_ (h : Lim w A n c l) {k : Nat} (hk : k < n) : ∃ b o,A = some ⟨b,o,none⟩ /\ w.cell? ⟨b,o + k,none⟩ = some (limb (l[k]?.getD 0)):=by
 obtain ⟨b,o,e,hc⟩:=h.2.2.2.2 (by omega);exact ⟨b,o,e,hc k hk⟩
theorem Lim.cell {b o : Nat} (h : Lim w (some ⟨b,o,none⟩) n c l) {k : Nat} (hk : k < n) : w.cell? ⟨b,o + k,none⟩ = some (limb (l[k]?.getD 0)):=by
 obtain ⟨b',o',e,hc⟩:=h.at_ hk
 cases e;exact hc
theorem Lim.keep (h : Lim w A n c l) (hk : ∀ p : Addr,p.block < w.heap.size -> w'.cell? p = w.cell? p) : Lim w' A n c l:=
 ⟨h.1,h.2.1,h.2.2.1,h.2.2.2.1,fun hn=>by
  obtain ⟨b,o,e,hc⟩:=h.2.2.2.2 hn
  exact ⟨b,o,e,fun k hk'=>(hk _ (Zn (hc k hk'))).trans (hc k hk')⟩⟩
theorem Lim.below (h : Lim w A n c l) (hb : Below w.heap.size w w') : Lim w' A n c l:=h.keep fun _ hp=>hb.cell hp
theorem Lim.drew (h : Lim w A n c l) : Lim w.drew A n c l:=h
theorem Lim.drewN (h : Lim w A n c l) (k : Nat) : Lim (w.drewN k) A n c l:=h
theorem Lim.alloc (h : Lim w A n c l) (o : Obj) : Lim (w.alloc o) A n c l:=h.below ((Below.refl _ _).alloc (Nat.le_refl _) _)
theorem Lim.take (h : Lim w A n c l) {k : Nat} (hk : k <= n) : Lim w A k c (l.take k):=
 ⟨by rw [List.length_take,h.len];omega,by have:=h.2.1;omega,h.2.2.1,h.lt.take k,fun h0=>by
  obtain ⟨b,o,e,hc⟩:=h.2.2.2.2 (by omega);refine ⟨b,o,e,fun j hj=>?_⟩
  rw [hc j (by omega),List.getElem?_take,if_pos hj]⟩
theorem Lim.lt_pw (h : Lim w A n c l) : val l < pw n:=by have:=Zen h.lt;rw [h.len] at this;exact this
theorem Lim.of_blk {g : Nat} {t : TypeId} (h : Blk w g t (Zt l)) (hl : Lt32 l) (hn : l.length <= maxLen) : Lim w (some ⟨g,0,none⟩) l.length l.length l:=
 ⟨rfl,Nat.le_refl _,hn,hl,fun _=>⟨_,_,rfl,fun k hk=>by rw [Nat.zero_add,h.cell,Zab l k hk]⟩⟩
theorem Lim.canon (h : Lim w A n c l) : Lim w A (digits (val l)).length c (digits (val l)) /\ (digits (val l)).length <= n:=by
 have hle : (digits (val l)).length <= n:=(Zs _ _).2 h.lt_pw;have ht:=h.take hle
 have : l.take (digits (val l)).length = digits (val l):=by
  have hv : val (l.take (digits (val l)).length) = val l:=by
   have h1:=Z4 l (digits (val l)).length (by rw [h.len];exact hle);have h2:=Zc3 (val l)
   rcases Nat.eq_zero_or_pos (val (l.drop (digits (val l)).length)) with h0 | h0
   ·rw [h0] at h1;omega
   ·have:=Nat.mul_le_mul_left (pw (digits (val l)).length) h0;omega
  refine val_inj (h.lt.take _) (Zi0 _) ?_ ?_
  ·rw [List.length_take,h.len];omega
  ·rw [hv,Zg]
 rw [this] at ht;exact ⟨ht,hle⟩
end
def OutL (w : World) (P : List Nat -> Prop) (e : Ending) (w' : World) : Prop:=
 ∃ A n c l,e = .returned (.slice A n c) /\ Lim w' A n c l /\ P l /\ Below w.heap.size w w'
theorem Zfj {P : Program} (t e : TypeId) {i : TypeInfo} (ht : P.underlying t = some (.slice e)) (hi : P.info? e = some i) (hz : i.zero = some (.int .u32 0)) (hs : i.size = 1) (hb : i.bytes = 4)
    (x : Int) (n : Nat) (hx : x = n) (hn : n <= 70368744177664) (W : World) :
    (Instr.makeSlice t (.int .i64 x) (.int .i64 x)).run P W = .ok (.slice (some ⟨W.heap.size,0,none⟩) n n) (W.alloc (.cells (Zt (List.replicate n 0)) e)):=by
 subst hx;have hr:=run_make (P:=P) W t e i (.int .u32 0) ht hi hz .i64 .i64 n n (by omega) (by omega) (by rw [hb];omega) (by omega);simp only [Int.toNat_natCast] at hr;rw [hr]
 have : madeCells (Value.int .u32 0).cells (n * i.size) = Zt (List.replicate n 0):=by
  rw [hs,Nat.mul_one]
  apply Array.toList_inj.1
  rw [show (Value.int .u32 0).cells = #[.int .u32 0] from rfl,toList_madeCells_one]
  simp [Zt]
 rw [this]
def sg (neg : Bool) (v : Nat) : Int:=if neg then -(v : Int) else v
def Wd (w : World) (neg : Bool) (A : Option Addr) (n c : Nat) (z : Int) : Prop:=neg = decide (z < 0) /\ n <= 4096 /\ Lim w A n c (digits z.natAbs)
def ResP (w' : World) (z : Int) (neg : Bool) (A : Option Addr) (n c : Nat) (code : Int) : Prop:=
 (z.natAbs < pw 4096 /\ code = 0 /\ Wd w' neg A n c z) \/ (pw 4096 <= z.natAbs /\ code = 16 /\ neg = false /\ A = none /\ n = 0 /\ c = 0)
def ResW (w : World) (z : Int) (e : Ending) (w' : World) : Prop:=
 Below w.heap.size w w' /\ ∃ neg A n c code,e = .returned (.tuple #[.agg #[.bool neg,.slice A n c],.int .i64 code]) /\ ResP w' z neg A n c code
section
variable {w w' : World} {neg : Bool} {A : Option Addr} {n c : Nat} {z : Int}
theorem Wd.below (h : Wd w neg A n c z) (hb : Below w.heap.size w w') : Wd w' neg A n c z:=⟨h.1,h.2.1,h.2.2.below hb⟩
theorem Wd.lim (h : Wd w neg A n c z) : Lim w A n c (digits z.natAbs):=h.2.2
theorem Wd.small (h : Wd w neg A n c z) : z.natAbs < pw 4096:=by
 have:=h.2.2.len;exact (Zs _ _).1 (by rw [this];exact h.2.1)
theorem Wd.zero (w : World) : Wd w false none 0 0 0:=⟨by simp,by omega,by rw [show digits (Int.natAbs 0) = [] from Z6];exact Lim.nil _ _ _ (Nat.zero_le _)⟩
theorem Wd.sgEq (h : Wd w neg A n c z) : sg neg (val (digits z.natAbs)) = z:=by
 rw [h.1,Zg];unfold sg;split <;> simp_all <;> omega
theorem Z5 (neg : Bool) (v : Nat) : (sg neg v).natAbs = v:=by unfold sg;split <;> simp
theorem Zko (neg : Bool) (v : Nat) : decide (sg neg v < 0) = (neg && decide (0 < v)):=by
 unfold sg;cases neg <;> simp
theorem length_digits_pos {v : Nat} : 0 < (digits v).length ↔ 0 < v:=by
 constructor
 ·intro h;rcases Nat.eq_zero_or_pos v with rfl | h'
  ·rw [Z6] at h;simp at h
  ·exact h'
 ·intro h;rcases Nat.eq_zero_or_pos (digits v).length with h' | h'
  ·have:=(Zs v 0).1 (by omega);rw [Zdh] at this;omega
  ·exact h'
theorem Wd.made {l : List Nat} (h : Lim w A n c l) (neg : Bool) (hs : val l < pw 4096) : Wd w (neg && decide (0 < (digits (val l)).length)) A (digits (val l)).length c (sg neg (val l)):=by
 refine ⟨?_,(Zs _ _).2 hs,?_⟩
 ·rw [Zko];congr 1;simp [length_digits_pos]
 ·rw [Z5];exact h.canon.1
end
theorem Zpx {c x y z : Nat} (hc : c < 4294967296) (hx : x < 4294967296) (hy : y < 4294967296) (hz : z < 4294967296) :
    IntKind.u64.wrap ((c : Int) + IntKind.u64.wrap (IntKind.u64.wrap ((x : Int) * y) + z)) = ((c + x * y + z : Nat) : Int):=by
 have h : x * y <= 4294967295 * 4294967295:=Nat.mul_le_mul (by omega) (by omega)
 have e : (x : Int) * y = ((x * y : Nat) : Int):=by simp
 rw [e]
 generalize x * y = t at *
 simp only [IntKind.wrap_u64];omega
theorem Zkn (t : Nat) : (t : Int) / 4294967296 = ((t / 4294967296 : Nat) : Int):=by omega
theorem Zke (t : Nat) : (t : Int) % 4294967296 = ((t % 4294967296 : Nat) : Int):=by omega
theorem Zca {W w1 : World} (hb : Below W.heap.size W w1) : (∀ b o,b < W.heap.size -> w1.cell? ⟨b,o,none⟩ = W.cell? ⟨b,o,none⟩) /\ (∀ b o,b < W.heap.size -> w1.frozen? ⟨b,o,none⟩ = W.frozen? ⟨b,o,none⟩):=
 ⟨fun b o h=>hb.cell (p:=⟨b,o,none⟩) h,fun b o h=>hb.frozen (p:=⟨b,o,none⟩) h⟩
theorem Za {W w1 : World} {p : Addr} {v : Value} (hb : Below W.heap.size W w1) (h : W.cell? p = some v) : w1.cell? p = some v:=(hb.cell (Zn h)).trans h
theorem Zi {W w1 : World} {p : Addr} {v : Value} (hb : Below W.heap.size W w1) (h : W.cell? p = some v) (hf : W.frozen? p = false) : w1.frozen? p = false:=(hb.frozen (Zn h)).trans hf
structure WE where
 neg : Bool
 A : Option Addr
 n : Nat
 c : Nat
 l : List Nat
def WE.num (e : WE) : Int:=sg e.neg (val e.l)
def okW (neg : Bool) (l : List Nat) : Bool:=decide (l.length <= 4096) && decide (l.getLast? ≠ some 0) && !(l.isEmpty && neg)
def WE.ok (e : WE) : Bool:=okW e.neg e.l
theorem Zpw {neg : Bool} {l : List Nat} (h : 4096 < l.length) : okW neg l = false:=by unfold okW;simp;omega
theorem Zhx {l : List Nat} (h : 0 < l.length) : l.getLast? = some (l[l.length - 1]?.getD 0):=by
 rw [List.getLast?_eq_getElem?,List.getElem?_eq_getElem (by omega)];rfl
theorem Zoi {neg : Bool} {l : List Nat} (h : 0 < l.length) (h' : l[l.length - 1]?.getD 0 = 0) : okW neg l = false:=by
 unfold okW;rw [Zhx h,h'];simp
theorem Ztm {neg : Bool} {l : List Nat} (h : 0 < l.length) (h1 : l.length <= 4096) (h' : l[l.length - 1]?.getD 0 ≠ 0) : okW neg l = true:=by
 have hne : l.isEmpty = false:=by cases l <;> simp_all
 unfold okW;rw [Zhx h]
 simp [h1,hne,h']
theorem Zmb {neg : Bool} {l : List Nat} (h : l.length = 0) : okW neg l = !neg:=by
 have : l = []:=List.eq_nil_of_length_eq_zero h;subst this;simp [okW]
theorem Zgb {neg : Bool} {l : List Nat} (hl : Lt32 l) : okW neg l = true ↔ neg = decide (sg neg (val l) < 0) /\ l.length <= 4096 /\ l = digits (sg neg (val l)).natAbs:=by
 rw [Z5,Zko]
 constructor
 ·intro h
  unfold okW at h;simp only [Bool.and_eq_true,decide_eq_true_eq,Bool.not_eq_true',Bool.and_eq_false_imp] at h;obtain ⟨⟨h1,h2⟩,h3⟩:=h;have h4:=Zl7 hl h2;refine ⟨?_,h1,h4⟩
  cases neg with
  | false=>rfl
  | true =>
   have : l ≠ []:=fun e=>by subst e;simp at h3
   have : 0 < val l:=by
    rw [<- length_digits_pos,<- h4];exact List.length_pos_iff.2 this
   simp [this]
 ·rintro ⟨h1,h2,h3⟩
  unfold okW;simp only [Bool.and_eq_true,decide_eq_true_eq,Bool.not_eq_true',Bool.and_eq_false_imp];refine ⟨⟨h2,by rw [h3];exact Zfx _⟩,fun h=>?_⟩
  have : l = []:=by simpa using h
  subst this;rw [h1];simp [val]
theorem Wd.ok {w : World} {neg : Bool} {A : Option Addr} {n c : Nat} {z : Int} (h : Wd w neg A n c z) : okW neg (digits z.natAbs) = true:=by
 rw [Zgb (Zi0 _),h.sgEq];exact ⟨h.1,by rw [h.2.2.len];exact h.2.1,rfl⟩
theorem Wd.of_ok {w : World} {neg : Bool} {A : Option Addr} {n c : Nat} {l : List Nat} (h : Lim w A n c l) (hk : okW neg l = true) : Wd w neg A n c (sg neg (val l)):=by
 obtain ⟨h1,h2,h3⟩:=(Zgb h.lt).1 hk;refine ⟨h1,by rw [<- h.len];exact h2,?_⟩;rw [<- h3];exact h
def WL (w : World) (A : Option Addr) (n c : Nat) (es : List WE) : Prop:=
 es.length = n /\ n <= c /\ c <= maxLen /\ (0 < n -> ∃ b o,A = some ⟨b,o,none⟩ /\ ∀ k e,es[k]? = some e -> w.cell? ⟨b,o + k * 2,none⟩ = some (.bool e.neg) /\ w.cell? ⟨b,o + k * 2 + 1,none⟩ = some (.slice e.A e.n e.c)) /\
  ∀ e ∈ es,Lim w e.A e.n e.c e.l
section
variable {w w' : World} {A : Option Addr} {n c : Nat} {es : List WE}
theorem WL.len (h : WL w A n c es) : es.length = n:=h.1
theorem WL.nil (w : World) (A : Option Addr) (c : Nat) (hc : c <= maxLen) : WL w A 0 c []:=⟨rfl,Nat.zero_le _,hc,fun h=>absurd h (by omega),fun e h=>by cases h⟩
theorem WL.at_ (h : WL w A n c es) {k : Nat} (hk : k < n) : ∃ b o e,A = some ⟨b,o,none⟩ /\ es[k]? = some e /\ w.cell? ⟨b,o + k * 2,none⟩ = some (.bool e.neg) /\ w.cell? ⟨b,o + k * 2 + 1,none⟩ = some (.slice e.A e.n e.c) /\ Lim w e.A e.n e.c e.l:=by
 obtain ⟨b,o,e,hc⟩:=h.2.2.2.1 (by omega)
 have hl : k < es.length:=by rw [h.1];exact hk
 have:=hc k _ (List.getElem?_eq_getElem hl);exact ⟨b,o,es[k],e,List.getElem?_eq_getElem hl,this.1,this.2,h.2.2.2.2 _ (List.getElem_mem hl)⟩
theorem WL.keep (h : WL w A n c es) (hk : ∀ p : Addr,p.block < w.heap.size -> w'.cell? p = w.cell? p) : WL w' A n c es:=
 ⟨h.1,h.2.1,h.2.2.1,fun hn=>by
  obtain ⟨b,o,e,hc⟩:=h.2.2.2.1 hn;exact ⟨b,o,e,fun k e' he=>⟨(hk _ (Zn (hc k e' he).1)).trans (hc k e' he).1,(hk _ (Zn (hc k e' he).2)).trans (hc k e' he).2⟩⟩,
  fun e he=>(h.2.2.2.2 e he).keep hk⟩
theorem WL.below (h : WL w A n c es) (hb : Below w.heap.size w w') : WL w' A n c es:=h.keep fun _ hp=>hb.cell hp
theorem WL.alloc (h : WL w A n c es) (o : Obj) : WL (w.alloc o) A n c es:=h.below ((Below.refl _ _).alloc (Nat.le_refl _) _)
theorem WL.take (h : WL w A n c es) {k : Nat} (hk : k <= n) : WL w A k c (es.take k):=
 ⟨by rw [List.length_take,h.len];omega,by have:=h.2.1;omega,h.2.2.1,fun h0=>(by
  obtain ⟨b,o,e,hc⟩:=h.2.2.2.1 (by omega);refine ⟨b,o,e,fun j e' hj=>hc j e' ?_⟩;rw [List.getElem?_take] at hj
  split at hj
  ·exact hj
  ·cases hj),fun e he=>h.2.2.2.2 e (List.mem_of_mem_take he)⟩
end
theorem WL.one {w : World} {neg : Bool} {A : Option Addr} {n c : Nat} {l : List Nat} (h : Lim w A n c l) (t : TypeId) :
    WL (w.alloc (.cells #[.bool neg,.slice A n c] t)) (some ⟨w.heap.size,0,none⟩) 1 1 [⟨neg,A,n,c,l⟩]:=
 ⟨rfl,by omega,by unfold maxLen;omega,fun _=>⟨_,_,rfl,fun k e he=>by
  cases k with
  | zero =>
   simp at he;subst he
   have hb:=Blk.new w t #[.bool neg,.slice A n c];exact ⟨hb.cell 0,hb.cell 1⟩
  | succ k=>simp at he⟩,fun e he=>by simp at he;subst he;exact h.alloc _⟩
theorem WL.two {w : World} {neg neg' : Bool} {A A' : Option Addr} {n c n' c' : Nat} {l l' : List Nat} (h : Lim w A n c l) (h' : Lim w A' n' c' l') (t : TypeId) :
    WL (w.alloc (.cells #[.bool neg,.slice A n c,.bool neg',.slice A' n' c'] t)) (some ⟨w.heap.size,0,none⟩) 2 2 [⟨neg,A,n,c,l⟩,⟨neg',A',n',c',l'⟩]:=
 ⟨rfl,by omega,by unfold maxLen;omega,fun _=>⟨_,_,rfl,fun k e he=>by
  have hb:=Blk.new w t #[.bool neg,.slice A n c,.bool neg',.slice A' n' c']
  match k with
  | 0=>simp at he;subst he;exact ⟨hb.cell 0,hb.cell 1⟩
  | 1=>simp at he;subst he;exact ⟨hb.cell 2,hb.cell 3⟩
  | k + 2=>simp at he⟩,fun e he=>by
   simp at he
   rcases he with rfl | rfl
   ·exact h.alloc _
   ·exact h'.alloc _⟩
theorem Zd {W w1 : World} {g : Nat} {t : TypeId} {cs : Array Value} (hb : Below W.heap.size W w1) (h : Blk W g t cs) : Blk w1 g t cs:=h.below hb h.lt
def NoLimb (cs : Array Value) : Prop:=∀ (i x : Nat),cs[i]? ≠ some (limb x)
theorem NoLimb.box (b : Bool) (A : Option Addr) (n c : Nat) : NoLimb #[.bool b,.slice A n c]:=fun i x=>by
 match i with
 | 0=>simp
 | 1=>simp
 | i + 2=>simp
theorem Lim.set_box {w : World} {A : Option Addr} {n c : Nat} {l : List Nat} (h : Lim w A n c l) {g : Nat} {t : TypeId} {cs : Array Value} (hb : Blk w g t cs) (hcs : NoLimb cs) (i : Nat) (u : Value) : Lim (w.setCell ⟨g,i,none⟩ u) A n c l:=
 ⟨h.1,h.2.1,h.2.2.1,h.2.2.2.1,fun hn=>by
  obtain ⟨b,o,e,hc⟩:=h.2.2.2.2 hn;refine ⟨b,o,e,fun k hk=>(World.cell?_setCell_other w _ _ u ?_).trans (hc k hk)⟩;intro he
  have hbg : b = g:=by cases he;rfl
  have:=hc k hk;rw [hbg,hb.cell] at this
  exact hcs _ _ this⟩
theorem ResP.set_box {w : World} {z : Int} {neg : Bool} {A : Option Addr} {n c : Nat} {code : Int} (h : ResP w z neg A n c code) {g : Nat} {t : TypeId} {cs : Array Value} (hb : Blk w g t cs) (hcs : NoLimb cs) (i : Nat) (u : Value) : ResP (w.setCell ⟨g,i,none⟩ u) z neg A n c code:=by
 rcases h with ⟨h1,h2,h3⟩ | h
 ·exact .inl ⟨h1,h2,h3.1,h3.2.1,h3.2.2.set_box hb hcs i u⟩
 ·exact .inr h
theorem ResW.box {w w3 : World} {z : Int} {neg : Bool} {A : Option Addr} {n c : Nat} {code : Int} {g : Nat} {t : TypeId} {b0 : Bool} {A0 : Option Addr} {n0 c0 : Nat} (hP : ResP w3 z neg A n c code) (hB : Below w.heap.size w w3) (hg : w.heap.size <= g) (hb : Blk w3 g t #[.bool b0,.slice A0 n0 c0]) :
    ResW w z (.returned (.tuple #[.agg #[.bool neg,.slice A n c],.int .i64 code])) ((w3.setCell ⟨g,0,none⟩ (.bool neg)).setCell ⟨g,1,none⟩ (.slice A n c)):=by
 have hb1 : Blk (w3.setCell ⟨g,0,none⟩ (.bool neg)) g t #[.bool neg,.slice A0 n0 c0]:=hb.set_ 0 (.bool neg);exact ⟨(hB.setCell (p:=⟨g,0,none⟩) hg _).setCell (p:=⟨g,1,none⟩) hg _,_,_,_,_,_,rfl,(hP.set_box hb (NoLimb.box _ _ _ _) _ _).set_box hb1 (NoLimb.box _ _ _ _) _ _⟩
def Reads (w : World) (B size : Nat) (A : Option Addr) (n : Nat) (xs : List Value) : Prop:=
 xs.length = n * size /\ (0 < n -> ∃ ad,A = some ad /\ ad.block < B /\ ∀ j u,xs[j]? = some u -> w.cell? (ad.add j) = some u)
section
variable {w w' : World} {B B' size n : Nat} {A : Option Addr} {xs : List Value}
theorem Reads.keep (h : Reads w B size A n xs) (hk : ∀ p : Addr,p.block < B -> w'.cell? p = w.cell? p) : Reads w' B size A n xs:=
 ⟨h.1,fun hn=>by
  obtain ⟨ad,e,hb,hc⟩:=h.2 hn
  exact ⟨ad,e,hb,fun j u hu=>(hk _ (by rw [Zmh];exact hb)).trans (hc j u hu)⟩⟩
theorem Reads.alloc (h : Reads w B size A n xs) (hB : B <= w.heap.size) (o : Obj) : Reads (w.alloc o) B size A n xs:=h.keep fun p hp=>World.cell?_alloc_lt w o p (by omega)
end
section
variable {P : Program} (w : World)
theorem Zc6 (base : Nat) (t ty e : TypeId) (i : TypeInfo) (size : Nat) (ht : P.underlying t = some (.slice e)) (hi : P.info? e = some i)
    (v : Value) (n : Nat) (xs : List Value) (hown : w.ownsRow base e size v n xs) (c : Nat) : (Builtin.append_ #[t,t] ty #[v,.slice none 0 c]).run P w = .ok v w:=by
 rcases hown.2 with ⟨rfl,rfl⟩ | ⟨g,cap,cur,rfl,_,_,hnc,_⟩
 ·simp [Builtin.append_,run_underlying ht,sizeOf,typeInfo,hi,Builtin.lenOf,Builtin.firstCells]
 ·simp [Builtin.append_,run_underlying ht,sizeOf,typeInfo,hi,Builtin.lenOf,Builtin.firstCells,hnc,storeCells]
theorem Zjf (base : Nat) (t ty e : TypeId) (i : TypeInfo) (z : Value) (size bytes : Nat) (ht : P.underlying t = some (.slice e)) (hi : P.info? e = some i) (hz : i.zero = some z)
    (hsize : i.size = size) (hby : i.bytes = bytes) (hzs : z.cells.size = size) (hsz : 0 < size)
    (v : Value) (n : Nat) (xs : List Value) (hown : w.ownsRow base e size v n xs)
    (B : Nat) (A : Option Addr) (m c : Nat) (news : List Value) (hr : Reads w B size A m news) (h1 : ∀ u ∈ news,u.oneCell' = true)
    (h63 : n + m <= maxLen) (hbytes : (n + m) * bytes <= 140737488355328) (hbase : base <= w.heap.size) :
    ∃ v' w',(Builtin.append_ #[t,t] ty #[v,.slice A m c]).run P w = .ok v' w' /\ w'.ownsRow base e size v' (n + m) (xs ++ news) /\ w.grownBy w' v.ownBlock /\
     (v'.ownBlock = v.ownBlock \/ v'.ownBlock = some w.heap.size):=by
 rcases A with _ | ad
 ·have hm : m = 0:=by
    rcases Nat.eq_zero_or_pos m with h0 | h0
    ·exact h0
    ·obtain ⟨ad,h,_⟩:=hr.2 h0
     cases h
  subst hm;have hn : news = []:=List.eq_nil_of_length_eq_zero (by simpa using hr.1);subst hn;exact ⟨v,w,Zc6 w base t ty e i size ht hi v n xs hown c,by simpa using hown,World.grownBy.refl w _,.inl rfl⟩
 ·have hcells : ∀ j u,news[j]? = some u -> w.cell? (ad.add j) = some u:=by
    intro j u hu
    rcases Nat.eq_zero_or_pos m with h0 | h0
    ·subst h0
     have hn : news = []:=List.eq_nil_of_length_eq_zero (by simpa using hr.1);subst hn
     simp at hu
    ·obtain ⟨ad',h,_,hc⟩:=hr.2 h0
     injection h with h
     subst h;exact hc j u hu
  obtain ⟨v',w',hrun,h2,h3,_,h5⟩:=run_append_own_at (P:=P) w base t ty e i z size bytes ht hi hz hsize hby hzs hsz v n xs hown ad m c news hr.1 hcells h1 h63 hbytes hbase;exact ⟨v',w',hrun,h2,h3,h5⟩
theorem Zgx {o : Oper} {a : Act} {K : Act -> World -> Prop} {Q : Exit -> Act -> World -> Prop} (s x : Operand) (t : TypeId)
    (ho : o.op = .call { callee:=.builtin .append,args:=#[s,x],argTypes:=#[t,t] })
    (base : Nat) (e : TypeId) (i : TypeInfo) (z : Value) (size bytes : Nat) (ht : P.underlying t = some (.slice e)) (hi : P.info? e = some i) (hz : i.zero = some z)
    (hsize : i.size = size) (hby : i.bytes = bytes) (hzs : z.cells.size = size) (hsz : 0 < size)
    (v : Value) (n : Nat) (xs : List Value) (hs : a.eval s = v) (hown : w.ownsRow base e size v n xs)
    (B : Nat) (A : Option Addr) (m c : Nat) (news : List Value) (hx : a.eval x = .slice A m c) (hr : Reads w B size A m news) (h1 : ∀ u ∈ news,u.oneCell' = true)
    (h63 : n + m <= maxLen) (hbytes : (n + m) * bytes <= 140737488355328) (hbase : base <= w.heap.size)
    (h : ∀ v' w',w'.ownsRow base e size v' (n + m) (xs ++ news) -> w.grownBy w' v.ownBlock -> (v'.ownBlock = v.ownBlock \/ v'.ownBlock = some w.heap.size) -> K (a.put o.dst v') w') : o.wp P a w K Q:=by
 obtain ⟨v',w',hrun,h2,h3,h4⟩:=Zjf (P:=P) w base t o.type e i z size bytes ht hi hz hsize hby hzs hsz v n xs hown B A m c news hr h1 h63 hbytes hbase;unfold Oper.wp execOp;simp only [ho,resolve,invoke,builtin,Sem.run_bind,Sem.run_pure,Result.andThen_ok,List.map_toArray,List.map_cons,List.map_nil,hs,hx,hrun];exact h v' w' h2 h3 h4
theorem Zq {ops : Array Oper} {rest : List Oper} {o : Oper} {a : Act} {Q : Exit -> Act -> World -> Prop} (hgd : o.guard = none) (s x : Operand) (t : TypeId)
    (ho : o.op = .call { callee:=.builtin .append,args:=#[s,x],argTypes:=#[t,t] })
    (base : Nat) (e : TypeId) (i : TypeInfo) (z : Value) (size bytes : Nat) (ht : P.underlying t = some (.slice e)) (hi : P.info? e = some i) (hz : i.zero = some z)
    (hsize : i.size = size) (hby : i.bytes = bytes) (hzs : z.cells.size = size) (hsz : 0 < size)
    (v : Value) (n : Nat) (xs : List Value) (hs : a.eval s = v) (hown : w.ownsRow base e size v n xs)
    (B : Nat) (A : Option Addr) (m c : Nat) (news : List Value) (hx : a.eval x = .slice A m c) (hr : Reads w B size A m news) (h1 : ∀ u ∈ news,u.oneCell' = true)
    (h63 : n + m <= maxLen) (hbytes : (n + m) * bytes <= 140737488355328) (hbase : base <= w.heap.size)
    (h : ∀ v' w',w'.ownsRow base e size v' (n + m) (xs ++ news) -> w.grownBy w' v.ownBlock -> (v'.ownBlock = v.ownBlock \/ v'.ownBlock = some w.heap.size) -> wpList P ops Q rest (a.put o.dst v') w') : wpList P ops Q (o :: rest) a w:=
 wpList_plain hgd fun _ hK=>Zgx w s x t ho base e i z size bytes ht hi hz hsize hby hzs hsz v n xs hs hown B A m c news hx hr h1 h63 hbytes hbase fun v' w' h2 h3 h4=>hK _ _ (h v' w' h2 h3 h4)
end
theorem Lim.reads {w : World} {A : Option Addr} {n c : Nat} {l : List Nat} (h : Lim w A n c l) : Reads w w.heap.size 1 A n (l.map limb):=
 ⟨by simp [h.len],fun hn=>by
  obtain ⟨b,o,e,hc⟩:=h.2.2.2.2 hn;refine ⟨_,e,Zn (hc 0 hn),fun j u hu=>?_⟩;rw [Zj]
  have hj : j < n:=by
   rcases Nat.lt_or_ge j n with h' | h'
   ·exact h'
   ·rw [List.getElem?_eq_none (by simp [h.len];exact h')] at hu;cases hu
  rw [hc j hj];rw [List.getElem?_map,List.getElem?_eq_getElem (by rw [h.len];exact hj)] at hu;rw [List.getElem?_eq_getElem (by rw [h.len];exact hj)]
  simpa using hu⟩
def OwnL (t : TypeId) (w : World) (base : Nat) (v : Value) (l : List Nat) : Prop:=w.ownsRow base t 1 v l.length (l.map limb) /\ Lt32 l
theorem OwnL.nil (t : TypeId) (w : World) (base : Nat) : OwnL t w base (.slice none 0 0) []:=⟨World.ownsRow_nil _ _ _ _,Lt32.nil⟩
theorem OwnL.lim {t : TypeId} {w : World} {base : Nat} {v : Value} {l : List Nat} (h : OwnL t w base v l) : ∃ A c,v = .slice A l.length c /\ Lim w A l.length c l:=by
 obtain ⟨h1,h2⟩:=h
 rcases h1.2 with ⟨hv,h0⟩ | ⟨g,cap,cur,hv,_,hh,hnc,hcm,hcs,ht⟩
 ·have : l = []:=List.eq_nil_of_length_eq_zero h0
  subst this;exact ⟨none,0,hv,Lim.nil _ _ _ (Nat.zero_le _)⟩
 ·refine ⟨_,cap,hv,rfl,hnc,hcm,h2,fun _=>⟨g,0,rfl,fun k hk=>?_⟩⟩
  rw [Nat.zero_add,cell_of_row w g k cur t (0,0) hh]
  have h3 : (cur.toList.take (l.length * 1))[k]? = (l.map limb)[k]?:=by rw [ht]
  rw [List.getElem?_take,if_pos (by omega),List.getElem?_map,List.getElem?_eq_getElem hk] at h3;rw [List.getElem?_eq_getElem hk]
  simpa using h3
theorem OwnL.append {t : TypeId} {w' : World} {base : Nat} {v' : Value} {l m : List Nat} {n k : Nat} (hn : n = l.length) (hk : k = m.length) (h : w'.ownsRow base t 1 v' (n + k) (l.map limb ++ m.map limb)) (hl : Lt32 l) (hm : Lt32 m) : OwnL t w' base v' (l ++ m):=by
 subst hn hk;refine ⟨?_,hl.append hm⟩;rw [List.length_append,List.map_append];exact h
theorem OwnL.row_ge {t : TypeId} {w : World} {base : Nat} {v : Value} {l : List Nat} (h : OwnL t w base v l) : ∀ k,v.ownBlock = some k -> base <= k:=fun k hk=>(h.1.lt k hk).1
theorem Zcq (l : List Nat) : ∀ u ∈ l.map limb,u.oneCell' = true:=fun u hu=>by
 obtain ⟨x,_,rfl⟩:=List.mem_map.1 hu;rfl
theorem Zgr (w : World) (t : TypeId) (size : Nat) : (w.alloc (.cells #[] t)).ownsRow w.heap.size t size (.slice (some ⟨w.heap.size,0,none⟩) 0 0) 0 []:=by
 have:=World.ownsRow_lit (base:=w.heap.size) (e:=t) (size:=size) w #[] 0 (Nat.le_refl _) (Nat.zero_le _) (by simp)
 simpa using this
theorem OutL.of_append {t : TypeId} {w w1 wb : World} {v1 : Value} {m : List Nat} {k : Nat} {P : List Nat -> Prop} {row : Option Nat} (h : w1.ownsRow w.heap.size t 1 v1 (0 + k) ([] ++ m.map limb)) (hk : m.length = k) (hm : Lt32 m)
    (hB : Below w.heap.size w wb) (hg : wb.grownBy w1 row) (hr : ∀ j,row = some j -> w.heap.size <= j) (hP : P m) : OutL w P (.returned v1) w1:=by
 have h2 : OwnL t w1 w.heap.size v1 ([] ++ m):=OwnL.append (l:=[]) rfl hk.symm h Lt32.nil hm;rw [List.nil_append] at h2;obtain ⟨A,c,rfl,hL⟩:=h2.lim;exact ⟨A,_,c,m,rfl,hL,hP,hB.grown hg hB.size hr⟩
theorem Zr {B : Nat} {a w : World} (h : Below B a w) (n : Nat) : Below B a (w.drewN n):=⟨h.os,h.tape,h.output,h.size,h.block⟩
theorem Za6 (w : World) (x : Value) (t : TypeId) : Reads (w.alloc (.cells #[x] t)) (w.heap.size + 1) 1 (some ⟨w.heap.size,0,none⟩) 1 [x]:=
 ⟨rfl,fun _=>⟨_,rfl,Nat.lt_succ_self _,fun j u hu=>by
  cases j with
  | zero =>
   simp at hu;subst hu
   exact (Blk.new w t #[x]).cell 0
  | succ j=>simp at hu⟩⟩
theorem OwnL.snoc {t : TypeId} {w' : World} {base : Nat} {v' : Value} {l : List Nat} {n : Nat} {X : Int} {s : Nat} (hn : n = l.length) (h : w'.ownsRow base t 1 v' (n + 1) (l.map limb ++ [.int .u32 X])) (hl : Lt32 l) (hX : X = s) (hs : s < 4294967296) : OwnL t w' base v' (l ++ [s]):=by
 subst hX;exact OwnL.append (m:=[s]) hn rfl h hl (Lt32.cons hs Lt32.nil)
theorem Zdo (l : List Nat) (x : Nat) : val (l ++ [x]) = val l + pw l.length * x:=by rw [Zg5];simp [val]
theorem OutL.of_own {t : TypeId} {w w1 : World} {v1 : Value} {m : List Nat} {P : List Nat -> Prop} (h : OwnL t w1 w.heap.size v1 m) (hB : Below w.heap.size w w1) (hP : P m) : OutL w P (.returned v1) w1:=by
 obtain ⟨A,c,rfl,hL⟩:=h.lim;exact ⟨A,_,c,m,rfl,hL,hP,hB⟩
attribute [local go_sem] Zj
theorem Zer (A : Option Addr) (n c : Nat) (l : List Nat) (w : World) (h : Lim w A n c l) :
    Calls Try.prog 71 #[.slice A n c] w fun e w'=>e = .returned (.slice A (digits (val l)).length c) /\ w = w':=by
 have hn:=h.2.1;have hm:=h.2.2.1;unfold maxLen at hm;go_enter Try.func71,Try.ntmps71
 go_wp2
 go_loop [3] (fun v=>∃ k : Nat,k <= n /\ v = .int .i64 k /\ Hid (∀ j,k <= j -> l[j]?.getD 0 = 0)) (fun v=>(intOf v).toNat)
 case atStart=>exact ⟨n,Nat.le_refl _,rfl,fun j hj=>by rw [List.getElem?_eq_none (by rw [h.len];exact hj)];rfl⟩
 case round =>
  obtain ⟨k,hk,rfl,hz⟩:=hrel
  by_cases hk0 : 0 < k
  ·obtain ⟨b,o,rfl,hcell⟩:=h.at_ (k:=k - 1) (by omega)
   by_cases hx : l[k-1]?.getD 0 = 0
   ·have hb : (((l[k-1]?.getD 0 : Nat) : Int) == 0) = true:=by simp [hx]
    clear h;have hx:=Zb hx
    go_wp2
    go_round
    case rel=>exact ⟨k - 1,by omega,by go_num,fun j hj=>by
        rcases Nat.lt_or_ge j k with h' | h'
        ·obtain rfl : j = k - 1:=by omega
         exact hx.out
        ·exact hz.out j h'⟩
    case measure=>simp [intOf];omega
   ·have hb : (((l[k-1]?.getD 0 : Nat) : Int) == 0) = false:=by simpa using hx
    have hd:=Ze4 hz.out (Or.inr hx) h.lt;have hlk:=congrArg List.length hd;rw [List.length_take,h.len,Nat.min_eq_left hk] at hlk;have HL:=Zb hlk;clear h hd hlk hx
    go_wp2
    go_ret;exact ⟨Zk9 HL.out.symm,rfl⟩
  ·obtain rfl : k = 0:=by omega
   have HL:=Zb (congrArg List.length (Ze4 hz.out (Or.inl rfl) h.lt));clear h
   go_wp2
   go_ret;exact ⟨Zk9 HL.out.symm,rfl⟩
theorem Zha {a b : Int} {s k : Nat} (h1 : a = s) (h2 : b = k) : Ending.returned (.tuple #[.int .u32 a,.int .u32 b]) = .returned (.tuple #[limb s,limb k]):=by rw [h1,h2]
def Sum32 (t : Nat) (w : World) (e : Ending) (w' : World) : Prop:=
 ∃ s k : Nat,e = .returned (.tuple #[limb s,limb k]) /\ s < 4294967296 /\ s + 4294967296 * k = t /\ w = w'
theorem Zgd (x y c : Nat) (w : World) (hx : x < 4294967296) (hy : y < 4294967296) (hc : c <= 1) :
    Calls Try.prog 78 #[limb x,limb y,limb c] w (Sum32 (x + y + c) w):=by
 go_enter Try.func78,Try.ntmps78
 go_wp2
 go_ret2
 exact ⟨(x + y + c) % 4294967296,(x + y + c) / 4294967296,Zha (by omega) (by omega),by omega,by omega,rfl⟩
theorem Zeq (z : Nat) (h : z < 4294967296) : z.testBit 31 = decide (2147483648 <= z):=by
 rw [Nat.testBit_eq_decide_div_mod_eq]
 congr 1
 apply propext
 constructor <;> intro h' <;> omega
theorem div31 (z : Nat) (h : z < 4294967296) : z / 2147483648 = (z.testBit 31).toNat:=by
 rw [Zeq z h]
 by_cases h' : 2147483648 <= z
 ·simp [h'];omega
 ·simp [h'];omega
theorem Zo9 (x y d c : Nat) (hx : x < 4294967296) (hy : y < 4294967296) (hc : c <= 1) (hd : d < 4294967296) (k : Nat) (he : d + y + c = x + 4294967296 * k) :
    ((((4294967295 ^^^ x) &&& y) ||| ((4294967295 ^^^ (x ^^^ y)) &&& d)) / 2147483648) = k:=by
 have hxy : x ^^^ y < 2 ^ 32:=Nat.xor_lt_two_pow (by omega) (by omega);have h1 : 4294967295 ^^^ x < 2 ^ 32:=Nat.xor_lt_two_pow (by omega) (by omega);have h2 : 4294967295 ^^^ (x ^^^ y) < 2 ^ 32:=Nat.xor_lt_two_pow (by omega) hxy;have h3 : (4294967295 ^^^ x) &&& y < 2 ^ 32:=Nat.and_lt_two_pow _ (by omega);have h4 : (4294967295 ^^^ (x ^^^ y)) &&& d < 2 ^ 32:=Nat.and_lt_two_pow _ (by omega);have h5:=Nat.or_lt_two_pow h3 h4;rw [div31 _ (by omega)];simp only [Nat.testBit_or,Nat.testBit_and,Nat.testBit_xor,Zeq x hx,Zeq y hy,Zeq d hd,Zeq 4294967295 (by omega)]
 by_cases a : 2147483648 <= x <;> by_cases b : 2147483648 <= y <;> by_cases e : 2147483648 <= d <;> simp [a,b,e] <;> omega
def Dif32 (x y c : Nat) (w : World) (e : Ending) (w' : World) : Prop:=
 ∃ d k : Nat,e = .returned (.tuple #[limb d,limb k]) /\ d < 4294967296 /\ k <= 1 /\ d + y + c = x + 4294967296 * k /\ w = w'
theorem Zgm (x y c : Nat) (w : World) (hx : x < 4294967296) (hy : y < 4294967296) (hc : c <= 1) :
    Calls Try.prog 79 #[limb x,limb y,limb c] w (Dif32 x y c w):=by
 go_enter Try.func79,Try.ntmps79
 go_wp2
 go_ret2
 have e1 : ((x : Int) - y - c) % 4294967296 = (((x + 8589934592 - y - c) % 4294967296 : Nat) : Int):=by omega
 have hd : (x + 8589934592 - y - c) % 4294967296 < 4294967296:=by omega
 obtain ⟨k,hk⟩ : ∃ k,k <= 1 /\ (x + 8589934592 - y - c) % 4294967296 + y + c = x + 4294967296 * k:=⟨if x < y + c then 1 else 0,by split <;> omega⟩;refine ⟨(x + 8589934592 - y - c) % 4294967296,k,Zha e1 ?_,hd,hk.1,hk.2,rfl⟩;show bits .or .u32 _ _ / 2147483648 = _;rw [e1,show (IntKind.u32.max : Int) = ((4294967295 : Nat) : Int) from rfl];have hb:=Zo9 x y _ c hx hy hc hd k hk.2
 generalize (x + 8589934592 - y - c) % 4294967296 = d at *
 have hxy : x ^^^ y < 2 ^ 32:=Nat.xor_lt_two_pow (by omega) (by omega);have h1 : 4294967295 ^^^ x < 2 ^ 32:=Nat.xor_lt_two_pow (by omega) (by omega);have h2 : 4294967295 ^^^ (x ^^^ y) < 2 ^ 32:=Nat.xor_lt_two_pow (by omega) hxy;have h3 : (4294967295 ^^^ x) &&& y < 2 ^ 32:=Nat.and_lt_two_pow _ (by omega);have h4 : (4294967295 ^^^ (x ^^^ y)) &&& d < 2 ^ 32:=Nat.and_lt_two_pow _ (by omega);rw [u32_xor_nat x y hx hy,u32_xor_nat _ x (by omega) hx,u32_xor_nat _ (x ^^^ y) (by omega) (by omega),u32_and_nat _ y (by omega) hy,u32_and_nat _ d (by omega) hd,u32_or_nat _ _ (by omega) (by omega)];omega
theorem Zcl : (Try.prog.info? 71).map (fun i=>(i.zero,i.size,i.bytes)) = some (some (.int .u32 0),1,4):=by kernel_rfl
def Plus1 (w : World) (a b : List Nat) (g n k carry : Nat) (wr : World) : Prop:=
 ∃ out,Blk wr g 71 (Zt out) /\ out.length = n + 1 /\ Lt32 out /\ (∀ j,k <= j -> out[j]?.getD 0 = 0) /\ val out + pw k * carry = val (a.take k) + val (b.take k) /\ Below w.heap.size w wr
theorem Plus1.start (w : World) (a b : List Nat) (n : Nat) : Plus1 w a b w.heap.size n 0 0 (w.alloc (.cells (Zt (List.replicate (n + 1) 0)) 71)):=
 ⟨List.replicate (n + 1) 0,Blk.new _ _ _,by simp,Lt32.replicate _,fun j _=>Zc4 _ _,by simp [Zdg,val],(Below.refl _ _).alloc (Nat.le_refl _) _⟩
theorem Plus1.step {w wr : World} {a b out : List Nat} {n k carry s q : Nat} (hblk : Blk wr w.heap.size 71 (Zt out)) (hlen : out.length = n + 1) (hlt : Lt32 out) (hz : ∀ j,k <= j -> out[j]?.getD 0 = 0)
    (hI : val out + pw k * carry = val (a.take k) + val (b.take k)) (hB : Below w.heap.size w wr) (hk : k < n) (hs : s < 4294967296) (he : s + 4294967296 * q = a[k]?.getD 0 + b[k]?.getD 0 + carry) :
    Plus1 w a b w.heap.size n (k + 1) q (wr.setCell ⟨w.heap.size,k,none⟩ (limb s)):=
 ⟨out.set k s,by rw [<- Za8];exact hblk.set_ _ _,by rw [List.length_set];exact hlen,hlt.set _ hs,fun j hj=>by rw [getD_set_ne _ (by omega)];exact hz j (by omega),
  Zq2 (by omega) (hz k (Nat.le_refl _)) hI he,hB.setCell (p:=⟨w.heap.size,k,none⟩) (Nat.le_refl _) _⟩
theorem Plus1.stop {w wr : World} {a b out : List Nat} {n carry : Nat} (hblk : Blk wr w.heap.size 71 (Zt out)) (hlen : out.length = n + 1) (hlt : Lt32 out) (hz : ∀ j,n <= j -> out[j]?.getD 0 = 0)
    (hI : val out + pw n * carry = val (a.take n) + val (b.take n)) (hB : Below w.heap.size w wr) (hc : carry <= 1) (ha : a.length <= n) (hb : b.length <= n) (hn : n < maxLen) :
    OutL w (fun l=>l.length = n + 1 /\ val l = val a + val b) (.returned (.slice (some ⟨w.heap.size,0,none⟩) (n + 1) (n + 1))) (wr.setCell ⟨w.heap.size,n,none⟩ (limb carry)):=by
 have hb2 : Blk (wr.setCell ⟨w.heap.size,n,none⟩ (limb carry)) w.heap.size 71 (Zt (out.set n carry)):=by rw [<- Za8];exact hblk.set_ _ _
 have hL:=Lim.of_blk hb2 (hlt.set _ (by omega)) (by rw [List.length_set];omega);rw [List.length_set,hlen] at hL;refine ⟨_,_,_,_,rfl,hL,⟨by rw [List.length_set];exact hlen,?_⟩,hB.setCell (p:=⟨w.heap.size,n,none⟩) (Nat.le_refl _) _⟩;have:=Zgg (l:=out) (k:=n) (by omega) carry;rw [hz n (Nat.le_refl _)] at this;rw [Z1 ha,Z1 hb] at hI;omega
theorem Zm9 (sw : Bool) (A B : Option Addr) (n c m d : Nat) (a b : List Nat) (w : World) (ha : Lim w A n c a) (hb : Lim w B m d b) (hsw : sw = true -> m < n) (hsw' : sw = false -> m <= n) (hn : n <= 1000000000) :
    Calls Try.prog 58 (if sw = true then #[.slice B m d,.slice A n c] else #[.slice A n c,.slice B m d]) w (OutL w fun l=>l.length = n + 1 /\ val l = val a + val b):=by
 obtain ⟨i0,hi,hz0,hz1,hz2⟩:=info_parts Zcl;have hmk:=Zfj (P:=Try.prog) 24 71 Try.underlying24 hi hz0 hz1 hz2 ((n : Int) + 1) (n + 1) (by omega) (by omega);have hnc:=ha.2.1;have hmd:=hb.2.1;have hcm:=ha.2.2.1;have hdm:=hb.2.2.1
 have hnm : n < maxLen:=by unfold maxLen;omega
 unfold maxLen at hcm hdm
 have HS : Hid (∀ k carry wr,Plus1 w a b w.heap.size n k carry wr -> n <= k -> k <= n -> carry <= 1 -> OutL w (fun l=>l.length = n + 1 /\ val l = val a + val b) (.returned (.slice (some ⟨w.heap.size,0,none⟩) (n + 1) (n + 1))) (wr.setCell ⟨w.heap.size,n,none⟩ (limb carry))):=by
  rintro k carry wr ⟨out,h1,h2,h3,h4,h5,h6⟩ h7 h8 h9
  obtain rfl : k = n:=by omega
  exact Plus1.stop h1 h2 h3 h4 h5 h6 h9 (by rw [ha.len];omega) (by rw [hb.len];cases sw;exact hsw' rfl;exact Nat.le_of_lt (hsw rfl)) hnm
 have hmn : m <= n:=by cases sw;exact hsw' rfl;exact Nat.le_of_lt (hsw rfl)
 cases sw
 ·clear hsw hsw' hnm
  have hdd : decide (n < m) = false:=by simp;omega
  show Calls _ _ #[.slice A n c,.slice B m d] _ _;go_enter Try.func58,Try.ntmps58
  go_wp2
  go_loopw [6,23] (fun cv iv wr=>∃ k carry : Nat,k <= n /\ carry <= 1 /\ cv = limb carry /\ iv = .int .i64 k /\ Plus1 w a b w.heap.size n k carry wr) (fun _ iv _=>n - (intOf iv).toNat)
  case atStart=>exact ⟨0,0,Nat.zero_le _,Nat.zero_le _,rfl,rfl,Plus1.start w a b n⟩
  case round =>
   obtain ⟨k,carry,hk,hcy,rfl,rfl,hP⟩:=hrel
   by_cases hlt1 : k < n
   ·have hP':=hP
    obtain ⟨out,hblk,hlen,hlt,hz,hI,hB⟩:=hP';have HP:=Zb hP;clear hP;have hz:=Zb hz;have hI:=Zb hI;have hlen:=Zb hlen;have hsz:=hblk.lt;obtain ⟨ba,oa,rfl,hca⟩:=(ha.below hB).at_ hlt1;have hxa:=ha.lt.get k;have hcg:=hblk.cell k;rw [Zab out k (by rw [hlen.out];omega),hz.out k (Nat.le_refl _)] at hcg;have hfg:=hblk.frozen k
    by_cases hm1 : k < m
    ·obtain ⟨bb,ob,rfl,hcb⟩:=(hb.below hB).at_ hm1
     have hxb:=hb.lt.get k;go_wp2_with (go_at_call 78;refine (Zgd _ _ _ _ hxa hxb hcy).mono ?_;rintro e w' ⟨s,q,rfl,hs,he,rfl⟩;have hE:=Zb he;clear he)
     go_roundw
     case rel=>exact ⟨k + 1,q,by omega,by have:=hE.out;omega,rfl,by go_num,Plus1.step hblk hlen.out hlt hz.out hI.out hB hlt1 hs hE.out⟩
     case measure=>simp [intOf];omega
    ·have hb0:=Zb (Zbv (l:=b) (i:=k) (by rw [hb.len];omega))
     go_wp2_with (go_at_call 78;refine (Zgd _ 0 _ _ hxa (by omega) hcy).mono ?_;rintro e w' ⟨s,q,rfl,hs,he,rfl⟩;have hE:=Zb he;clear he)
     go_roundw
     case rel=>exact ⟨k + 1,q,by omega,by have:=hE.out;omega,rfl,by go_num,Plus1.step hblk hlen.out hlt hz.out hI.out hB hlt1 hs (by rw [hb0.out];exact hE.out)⟩
     case measure=>simp [intOf];omega
   ·have HF:=Zb (HS.out k carry wr hP (by omega) hk hcy)
    obtain ⟨out,hblk,hlen,hlt,hz,hI,hB⟩:=hP;have hcg:=hblk.cell n;rw [Zab out n (by omega),hz n (by omega)] at hcg;have hfg:=hblk.frozen n;have hsz:=hblk.lt;clear hblk hz hI hlen
    go_wp2
    go_ret;exact HF.out
 ·have hlt : m < n:=hsw rfl
  clear hsw hsw' hnm
  have hdd : decide (m < n) = true:=by simp;omega
  show Calls _ _ #[.slice B m d,.slice A n c] _ _;go_enter Try.func58,Try.ntmps58
  go_wp2
  go_loopw [6,23] (fun cv iv wr=>∃ k carry : Nat,k <= n /\ carry <= 1 /\ cv = limb carry /\ iv = .int .i64 k /\ Plus1 w a b w.heap.size n k carry wr) (fun _ iv _=>n - (intOf iv).toNat)
  case atStart=>exact ⟨0,0,Nat.zero_le _,Nat.zero_le _,rfl,rfl,Plus1.start w a b n⟩
  case round =>
   obtain ⟨k,carry,hk,hcy,rfl,rfl,hP⟩:=hrel
   by_cases hlt1 : k < n
   ·have hP':=hP
    obtain ⟨out,hblk,hlen,hlt,hz,hI,hB⟩:=hP';have HP:=Zb hP;clear hP;have hz:=Zb hz;have hI:=Zb hI;have hlen:=Zb hlen;have hsz:=hblk.lt;obtain ⟨ba,oa,rfl,hca⟩:=(ha.below hB).at_ hlt1;have hxa:=ha.lt.get k;have hcg:=hblk.cell k;rw [Zab out k (by rw [hlen.out];omega),hz.out k (Nat.le_refl _)] at hcg;have hfg:=hblk.frozen k
    by_cases hm1 : k < m
    ·obtain ⟨bb,ob,rfl,hcb⟩:=(hb.below hB).at_ hm1
     have hxb:=hb.lt.get k;go_wp2_with (go_at_call 78;refine (Zgd _ _ _ _ hxa hxb hcy).mono ?_;rintro e w' ⟨s,q,rfl,hs,he,rfl⟩;have hE:=Zb he;clear he)
     go_roundw
     case rel=>exact ⟨k + 1,q,by omega,by have:=hE.out;omega,rfl,by go_num,Plus1.step hblk hlen.out hlt hz.out hI.out hB hlt1 hs hE.out⟩
     case measure=>simp [intOf];omega
    ·have hb0:=Zb (Zbv (l:=b) (i:=k) (by rw [hb.len];omega))
     go_wp2_with (go_at_call 78;refine (Zgd _ 0 _ _ hxa (by omega) hcy).mono ?_;rintro e w' ⟨s,q,rfl,hs,he,rfl⟩;have hE:=Zb he;clear he)
     go_roundw
     case rel=>exact ⟨k + 1,q,by omega,by have:=hE.out;omega,rfl,by go_num,Plus1.step hblk hlen.out hlt hz.out hI.out hB hlt1 hs (by rw [hb0.out];exact hE.out)⟩
     case measure=>simp [intOf];omega
   ·have HF:=Zb (HS.out k carry wr hP (by omega) hk hcy)
    obtain ⟨out,hblk,hlen,hlt,hz,hI,hB⟩:=hP;have hcg:=hblk.cell n;rw [Zab out n (by omega),hz n (by omega)] at hcg;have hfg:=hblk.frozen n;have hsz:=hblk.lt;clear hblk hz hI hlen
    go_wp2
    go_ret;exact HF.out
theorem Znu (A B : Option Addr) (n c m d : Nat) (a b : List Nat) (w : World) (ha : Lim w A n c a) (hb : Lim w B m d b) (hn : n <= 1000000000) (hm : m <= 1000000000) :
    Calls Try.prog 58 #[.slice A n c,.slice B m d] w (OutL w fun l=>l.length = max n m + 1 /\ val l = val a + val b):=by
 rcases Nat.lt_or_ge n m with h | h
 ·refine (Zm9 true B A m d n c b a w hb ha (fun _=>h) (fun e=>by cases e) hm).mono ?_
  rintro e w' ⟨A',n',c',l,he,hL,hP,hB⟩;exact ⟨A',n',c',l,he,hL,⟨by rw [hP.1,Nat.max_eq_right (Nat.le_of_lt h)],by rw [hP.2,Nat.add_comm]⟩,hB⟩
 ·refine (Zm9 false A B n c m d a b w ha hb (fun e=>by cases e) (fun _=>h) hn).mono ?_
  rintro e w' ⟨A',n',c',l,he,hL,hP,hB⟩;exact ⟨A',n',c',l,he,hL,⟨by rw [hP.1,Nat.max_eq_left h],hP.2⟩,hB⟩
def Minus1 (w : World) (a b : List Nat) (g n k borrow : Nat) (wr : World) : Prop:=
 ∃ out,Blk wr g 71 (Zt out) /\ out.length = n /\ Lt32 out /\ (∀ j,k <= j -> out[j]?.getD 0 = 0) /\ val out + val (b.take k) = val (a.take k) + pw k * borrow /\ Below w.heap.size w wr
theorem Minus1.start (w : World) (a b : List Nat) (n : Nat) : Minus1 w a b w.heap.size n 0 0 (w.alloc (.cells (Zt (List.replicate n 0)) 71)):=
 ⟨List.replicate n 0,Blk.new _ _ _,by simp,Lt32.replicate _,fun j _=>Zc4 _ _,by simp [Zdg,val],(Below.refl _ _).alloc (Nat.le_refl _) _⟩
theorem Minus1.step {w wr : World} {a b out : List Nat} {n k borrow s q : Nat} (hblk : Blk wr w.heap.size 71 (Zt out)) (hlen : out.length = n) (hlt : Lt32 out) (hz : ∀ j,k <= j -> out[j]?.getD 0 = 0)
    (hI : val out + val (b.take k) = val (a.take k) + pw k * borrow) (hB : Below w.heap.size w wr) (hk : k < n) (hs : s < 4294967296) (he : s + b[k]?.getD 0 + borrow = a[k]?.getD 0 + 4294967296 * q) :
    Minus1 w a b w.heap.size n (k + 1) q (wr.setCell ⟨w.heap.size,k,none⟩ (limb s)):=
 ⟨out.set k s,by rw [<- Za8];exact hblk.set_ _ _,by rw [List.length_set];exact hlen,hlt.set _ hs,fun j hj=>by rw [getD_set_ne _ (by omega)];exact hz j (by omega),
  Zo8 (by omega) (hz k (Nat.le_refl _)) hI he,hB.setCell (p:=⟨w.heap.size,k,none⟩) (Nat.le_refl _) _⟩
theorem Minus1.stop {w wr : World} {a b : List Nat} {n borrow : Nat} (h : Minus1 w a b w.heap.size n n borrow wr) (ha : a.length <= n) (hb : b.length <= n) (hab : val b <= val a) (hn : n <= maxLen) :
    OutL w (fun l=>l.length = n /\ val l + val b = val a) (.returned (.slice (some ⟨w.heap.size,0,none⟩) n n)) wr:=by
 obtain ⟨out,hblk,hlen,hlt,-,hI,hB⟩:=h;have hL:=Lim.of_blk hblk hlt (by omega);rw [hlen] at hL;refine ⟨_,_,_,_,rfl,hL,⟨hlen,?_⟩,hB⟩;rw [Z1 ha,Z1 hb] at hI;have:=Zen hlt;rw [hlen] at this
 rcases Nat.eq_zero_or_pos borrow with h0 | h0
 ·subst h0;omega
 ·have:=Nat.mul_le_mul_left (pw n) h0;omega
theorem Zh6 (A B : Option Addr) (n c m d : Nat) (a b : List Nat) (w : World) (ha : Lim w A n c a) (hb : Lim w B m d b) (hmn : m <= n) (hab : val b <= val a) (hn : n <= 1000000000) :
    Calls Try.prog 59 #[.slice A n c,.slice B m d] w (OutL w fun l=>l.length = n /\ val l + val b = val a):=by
 obtain ⟨i0,hi,hz0,hz1,hz2⟩:=info_parts Zcl;have hmk:=Zfj (P:=Try.prog) 24 71 Try.underlying24 hi hz0 hz1 hz2 (n : Int) n rfl (by omega);have hnc:=ha.2.1;have hmd:=hb.2.1;have hcm:=ha.2.2.1;have hdm:=hb.2.2.1
 have hnm : n <= maxLen:=by unfold maxLen;omega
 unfold maxLen at hcm hdm
 have HS : Hid (∀ borrow wr,Minus1 w a b w.heap.size n n borrow wr -> OutL w (fun l=>l.length = n /\ val l + val b = val a) (.returned (.slice (some ⟨w.heap.size,0,none⟩) n n)) wr):=
  fun borrow wr h=>Minus1.stop h (by rw [ha.len];omega) (by rw [hb.len];omega) hab hnm
 clear hnm hab;go_enter Try.func59,Try.ntmps59
 go_wp2
 go_loopw [6,15] (fun cv iv wr=>∃ k borrow : Nat,k <= n /\ borrow <= 1 /\ cv = limb borrow /\ iv = .int .i64 k /\ Minus1 w a b w.heap.size n k borrow wr) (fun _ iv _=>n - (intOf iv).toNat)
 case atStart=>exact ⟨0,0,Nat.zero_le _,Nat.zero_le _,rfl,rfl,Minus1.start w a b n⟩
 case round =>
  obtain ⟨k,borrow,hk,hcy,rfl,rfl,hP⟩:=hrel
  by_cases hlt1 : k < n
  ·obtain ⟨out,hblk,hlen,hlt,hz,hI,hB⟩:=hP
   have hz:=Zb hz;have hI:=Zb hI;have hlen:=Zb hlen;have hsz:=hblk.lt;obtain ⟨ba,oa,rfl,hca⟩:=(ha.below hB).at_ hlt1;have hxa:=ha.lt.get k;have hcg:=hblk.cell k;rw [Zab out k (by rw [hlen.out];omega),hz.out k (Nat.le_refl _)] at hcg;have hfg:=hblk.frozen k
   by_cases hm1 : k < m
   ·obtain ⟨bb,ob,rfl,hcb⟩:=(hb.below hB).at_ hm1
    have hxb:=hb.lt.get k;go_wp2_with (go_at_call 79;refine (Zgm _ _ _ _ hxa hxb hcy).mono ?_;rintro e w' ⟨s,q,rfl,hs,hq,he,rfl⟩;have hE:=Zb he;clear he)
    go_roundw
    case rel=>exact ⟨k + 1,q,by omega,hq,rfl,by go_num,Minus1.step hblk hlen.out hlt hz.out hI.out hB hlt1 hs hE.out⟩
    case measure=>simp [intOf];omega
   ·have hb0:=Zb (Zbv (l:=b) (i:=k) (by rw [hb.len];omega))
    go_wp2_with (go_at_call 79;refine (Zgm _ 0 _ _ hxa (by omega) hcy).mono ?_;rintro e w' ⟨s,q,rfl,hs,hq,he,rfl⟩;have hE:=Zb he;clear he)
    go_roundw
    case rel=>exact ⟨k + 1,q,by omega,hq,rfl,by go_num,Minus1.step hblk hlen.out hlt hz.out hI.out hB hlt1 hs (by rw [hb0.out];exact hE.out)⟩
    case measure=>simp [intOf];omega
  ·obtain rfl : k = n:=by omega
   have HF:=Zb (HS.out borrow wr hP);clear hP
   go_wp2
   go_ret;exact HF.out
theorem Zty {w w' : World} {A : Option Addr} {n c : Nat} {l : List Nat} {neg : Bool} (h : Lim w A n c l) (hb : Below w.heap.size w w') (hs : val l < pw 4096) :
    ResW w (sg neg (val l)) (.returned (.tuple #[.agg #[.bool (neg && decide (0 < (digits (val l)).length)),.slice A (digits (val l)).length c],.int .i64 0])) w':=
 ⟨hb,_,_,_,_,_,rfl,.inl ⟨by rw [Z5];exact hs,rfl,(Wd.made h neg hs).below hb⟩⟩
theorem Zbk (neg : Bool) (A : Option Addr) (n c : Nat) (l : List Nat) (w : World) (h : Lim w A n c l) :
    Calls Try.prog 53 #[.bool neg,.slice A n c] w (ResW w (sg neg (val l))):=by
 have hk:=h.canon.2;have hnc:=h.2.1;have hcm:=h.2.2.1;unfold maxLen at hcm
 have HO : Hid (∀ w',Below w.heap.size w w' -> val l < pw 4096 -> ResW w (sg neg (val l)) (.returned (.tuple #[.agg #[.bool (neg && decide (0 < (digits (val l)).length)),.slice A (digits (val l)).length c],.int .i64 0])) w'):=
  fun w' hb hs=>Zty h hb hs
 have HB : Hid (∀ w',Below w.heap.size w w' -> pw 4096 <= val l -> ResW w (sg neg (val l)) (.returned (.tuple #[.agg #[.bool false,.slice none 0 0],.int .i64 16])) w'):=
  fun w' hb hs=>⟨hb,_,_,_,_,_,rfl,.inr ⟨by rw [Z5];exact hs,rfl,rfl,rfl,rfl,rfl⟩⟩
 have HI:=Zb (Zs (val l) 4096);have HT:=Zb (Zer A n c l)
 generalize hm : (digits (val l)).length = m at *
 clear hm
 by_cases h1 : m <= 4096
 ·by_cases h2 : 0 < m
  ·have e : (neg && decide (0 < m)) = neg:=by simp [h2]
   simp only [e] at HO;clear e
   have hd : decide (0 < m) = true:=by simpa using h2
   cases neg
   all_goals
    go_enter Try.func53,Try.ntmps53;go_wp2_with (go_at_call 71;refine (HT.out _ (h.alloc _)).mono ?_;rintro e w' ⟨rfl,rfl⟩);go_returns;exact HO.out _ ((Below.refl _ _).alloc (Nat.le_refl _) _) (HI.out.1 h1)
  ·obtain rfl : m = 0:=by omega
   have e : (neg && decide (0 < 0)) = false:=by simp
   simp only [e] at HO;clear e
   cases neg
   all_goals
    go_enter Try.func53,Try.ntmps53;go_wp2_with (go_at_call 71;refine (HT.out _ (h.alloc _)).mono ?_;rintro e w' ⟨rfl,rfl⟩);go_returns;exact HO.out _ ((Below.refl _ _).alloc (Nat.le_refl _) _) (HI.out.1 h1)
 ·have hp : pw 4096 <= val l:=by
    rcases Nat.lt_or_ge (val l) (pw 4096) with h' | h'
    ·exact absurd (HI.out.2 h') h1
    ·exact h'
  have HP:=Zb hp;clear hp;go_enter Try.func53,Try.ntmps53;go_wp2_with (go_at_call 71;refine (HT.out _ (h.alloc _)).mono ?_;rintro e w' ⟨rfl,rfl⟩);go_returns;exact HB.out _ ((Below.refl _ _).alloc (Nat.le_refl _) _) HP.out
def Times1 (w : World) (a b : List Nat) (g i k carry : Nat) (wr : World) : Prop:=
 ∃ out,Blk wr g 71 (Zt out) /\ out.length = a.length + b.length /\ Lt32 out /\ (∀ j,i + b.length <= j -> out[j]?.getD 0 = 0) /\
  val out + pw (i + k) * carry = val (a.take i) * val b + pw i * (a[i]?.getD 0 * val (b.take k)) /\ carry < 4294967296 /\ Below w.heap.size w wr
theorem Times1.start (w : World) (a b : List Nat) : Times1 w a b w.heap.size 0 0 0 (w.alloc (.cells (Zt (List.replicate (a.length + b.length) 0)) 71)):=
 ⟨List.replicate _ 0,Blk.new _ _ _,by simp,Lt32.replicate _,fun j _=>Zc4 _ _,by simp [Zdg,val],by omega,(Below.refl _ _).alloc (Nat.le_refl _) _⟩
theorem Times1.step {w wr : World} {a b out : List Nat} {i k carry s q : Nat} (hblk : Blk wr w.heap.size 71 (Zt out)) (hlen : out.length = a.length + b.length) (hlt : Lt32 out) (hz : ∀ j,i + b.length <= j -> out[j]?.getD 0 = 0)
    (hI : val out + pw (i + k) * carry = val (a.take i) * val b + pw i * (a[i]?.getD 0 * val (b.take k))) (hc : carry < 4294967296) (hB : Below w.heap.size w wr) (hi : i < a.length) (hk : k < b.length)
    (ha : Lt32 a) (hb : Lt32 b) (hs : s < 4294967296) (he : s + 4294967296 * q = carry + a[i]?.getD 0 * b[k]?.getD 0 + out[i + k]?.getD 0) :
    Times1 w a b w.heap.size i (k + 1) q (wr.setCell ⟨w.heap.size,i + k,none⟩ (limb s)):=
 ⟨out.set (i + k) s,by rw [<- Za8];exact hblk.set_ _ _,by rw [List.length_set];exact hlen,hlt.set _ hs,fun j hj=>by rw [getD_set_ne _ (by omega)];exact hz j (by omega),
  Zo5 (by omega) hI he,Zti (ha.get i) (hb.get k) (hlt.get _) hc he,hB.setCell (p:=⟨w.heap.size,i + k,none⟩) (Nat.le_refl _) _⟩
theorem Times1.row {w wr : World} {a b : List Nat} {i carry : Nat} (h : Times1 w a b w.heap.size i b.length carry wr) (hi : i < a.length) :
    Times1 w a b w.heap.size (i + 1) 0 0 (wr.setCell ⟨w.heap.size,i + b.length,none⟩ (limb carry)):=by
 obtain ⟨out,hblk,hlen,hlt,hz,hI,hc,hB⟩:=h;rw [List.take_length] at hI;refine ⟨out.set (i + b.length) carry,by rw [<- Za8];exact hblk.set_ _ _,by rw [List.length_set];exact hlen,hlt.set _ hc,fun j hj=>by rw [getD_set_ne _ (by omega)];exact hz j (by omega),?_,by omega,hB.setCell (p:=⟨w.heap.size,i + b.length,none⟩) (Nat.le_refl _) _⟩;have:=Zra (by omega) (hz _ (Nat.le_refl _)) hI
 simp [val,this]
theorem Times1.stop {w wr : World} {a b : List Nat} {carry : Nat} (h : Times1 w a b w.heap.size a.length 0 carry wr) (hn : a.length + b.length <= maxLen) (h0 : carry = 0) :
    OutL w (fun l=>l.length = a.length + b.length /\ val l = val a * val b) (.returned (.slice (some ⟨w.heap.size,0,none⟩) (a.length + b.length) (a.length + b.length))) wr:=by
 obtain ⟨out,hblk,hlen,hlt,-,hI,-,hB⟩:=h;have hL:=Lim.of_blk hblk hlt (by omega);rw [hlen] at hL;refine ⟨_,_,_,_,rfl,hL,⟨hlen,?_⟩,hB⟩;subst h0
 simpa [val] using hI
theorem Zry (A B : Option Addr) (n c m d : Nat) (a b : List Nat) (w : World) (ha : Lim w A n c a) (hb : Lim w B m d b) (hn : n <= 1000000000) (hm : m <= 1000000000) :
    Calls Try.prog 54 #[.slice A n c,.slice B m d] w (OutL w fun l=>l.length = n + m /\ val l = val a * val b):=by
 obtain ⟨i0,hi,hz0,hz1,hz2⟩:=info_parts Zcl;have hmk:=Zfj (P:=Try.prog) 24 71 Try.underlying24 hi hz0 hz1 hz2 ((n : Int) + m) (n + m) (by omega) (by omega);have hnc:=ha.2.1;have hmd:=hb.2.1;have hcm:=ha.2.2.1;have hdm:=hb.2.2.1;unfold maxLen at hcm hdm;have hal:=Zb ha.len;have hbl:=Zb hb.len;go_enter Try.func54,Try.ntmps54
 go_wp2
 go_loopw [19] (fun iv wr=>∃ i : Nat,i <= n /\ iv = .int .i64 i /\ Times1 w a b w.heap.size i 0 0 wr) (fun iv _=>n - (intOf iv).toNat)
 case atStart=>exact ⟨0,Nat.zero_le _,rfl,by have:=Times1.start w a b;rw [ha.len,hb.len] at this;exact this⟩
 case round =>
  obtain ⟨i,hi1,rfl,hP⟩:=hrel
  by_cases hlt1 : i < n
  ·have hB0 : Below w.heap.size w wr:=by obtain ⟨out,h1,h2,h3,h4,h5,h6,h7⟩:=hP;exact h7
   obtain ⟨ba,oa,rfl,hca⟩:=(ha.below hB0).at_ hlt1;have hxa:=ha.lt.get i;obtain ⟨wo,rfl⟩ : ∃ wo : World,wo = wr:=⟨_,rfl⟩
   go_wp2
   go_loopw [8,26] (fun cv kv wr=>∃ k carry : Nat,k <= m /\ cv = .int .u64 carry /\ kv = .int .i64 k /\ Times1 w a b w.heap.size i k carry wr) (fun _ kv _=>m - (intOf kv).toNat)
   case atStart=>exact ⟨0,0,Nat.zero_le _,rfl,rfl,hP⟩
   case round =>
    obtain ⟨k,carry,hk,rfl,rfl,hP⟩:=hrel
    by_cases hlt2 : k < m
    ·obtain ⟨out,hblk,hlen,hlt,hz,hI,hcy,hB⟩:=hP
     have hz:=Zb hz;have hI:=Zb hI;have hlen:=Zb hlen;have hsz:=hblk.lt;obtain ⟨bb,ob,rfl,hcb⟩:=(hb.below hB).at_ hlt2;have hxb:=hb.lt.get k;have hcg:=hblk.cell (i + k);rw [Zab out (i + k) (by rw [hlen.out,hal.out,hbl.out];omega)] at hcg;have hxo:=hlt.get (i + k);have hfg:=hblk.frozen (i + k)
     go_wp2
     go_roundw
     case rel =>
      rw [Zpx hcy hxa hxb hxo,Zkn,Zke];exact ⟨k + 1,_,by omega,rfl,by go_num,Times1.step hblk hlen.out hlt hz.out hI.out hcy hB (by rw [hal.out];exact hlt1) (by rw [hbl.out];exact hlt2) ha.lt hb.lt (Nat.mod_lt _ (by decide)) (by omega)⟩
     case measure=>simp [intOf];omega
    ·obtain rfl : k = m:=by omega
     have HR : Hid (Times1 w a b w.heap.size (i + 1) 0 0 (wr.setCell ⟨w.heap.size,i + k,none⟩ (limb carry))):=by
      rw [<- hbl.out] at hP ⊢;exact hP.row (by rw [hal.out];exact hlt1)
     obtain ⟨out,hblk,hlen,hlt,hz,hI,hcy,hB⟩:=hP;have hsz:=hblk.lt;have hcg:=hblk.cell (i + k);rw [Zab out (i + k) (by rw [hlen,hal.out,hbl.out];omega)] at hcg;have hfg:=hblk.frozen (i + k);clear hz hI hlen hblk
     go_wp2
     go_roundw
     case rel=>exact ⟨i + 1,by omega,by go_num,HR.out⟩
     case measure=>simp [intOf];omega
  ·obtain rfl : i = n:=by omega
   have HF : Hid (OutL w (fun l=>l.length = i + m /\ val l = val a * val b) (.returned (.slice (some ⟨w.heap.size,0,none⟩) (i + m) (i + m))) wr):=by
    rw [<- hbl.out];have h1:=hal.out;subst h1;exact Times1.stop hP (by rw [hbl.out];unfold maxLen;omega) rfl
   clear hP
   go_wp2
   go_ret;exact HF.out
open Go.RowKit Go.Shelf
attribute [local go_sem] Oper.semAt_some
def Zcg (n : Nat) : Nat -> List { i : Nat // i < n }
 | 0=>[]
 | k + 1=>Zcg n k ++ (if h : k < n then [⟨n - 1 - k,by omega⟩] else [])
theorem Zcy {n k : Nat} (h : k < n) : Zcg n (k + 1) = Zcg n k ++ [⟨n - 1 - k,by omega⟩]:=by simp [Zcg,h]
theorem Zcp {n k : Nat} (h : k <= n) : (Zcg n k).length = k:=by
 induction k with
 | zero=>rfl
 | succ k ih=>rw [Zcy (by omega)];simp [ih (by omega)]
theorem Zku {n k : Nat} (h : k <= n) (i : { i : Nat // i < n }) : i ∈ Zcg n k ↔ n - k <= i.1:=by
 induction k with
 | zero=>simp [Zcg];omega
 | succ k ih =>
  have:=i.2;rw [Zcy (by omega),List.mem_append,ih (by omega),List.mem_singleton,Subtype.ext_iff]
  simp;omega
def Zgn (l : List Nat) (n : Nat) (i : { i : Nat // i < n }) : Array Value:=#[.int .i64 (i.1 : Int),limb (l[i.1]?.getD 0)]
theorem Zjm {W W' : World} {row : Option Nat} {A : Option Addr} {n c : Nat} {l : List Nat} (h : Lim W A n c l) (hg : W.grownBy W' row) (hrow : ∀ r,row = some r -> ∃ o : Obj,W.heap[r]? = some o /\ o.isCells = false) : Lim W' A n c l:=
 ⟨h.1,h.2.1,h.2.2.1,h.2.2.2.1,fun hn=>by
  obtain ⟨b,o,e,hc⟩:=h.2.2.2.2 hn
  exact ⟨b,o,e,fun k hk=>cell_kept (hc k hk) hg hrow⟩⟩
def KpD (Bs : Nat) (A : Option Addr) (n c : Nat) (l : List Nat) (W W' : World) : Prop:=
 (W.cell? ⟨Bs,0,none⟩ = some (.slice A n c) -> W'.cell? ⟨Bs,0,none⟩ = some (.slice A n c)) /\ (Lim W A n c l -> Lim W' A n c l)
theorem KpD.refl (Bs : Nat) (A : Option Addr) (n c : Nat) (l : List Nat) (W : World) : KpD Bs A n c l W W:=⟨id,id⟩
theorem KpD.trans {Bs n c : Nat} {A : Option Addr} {l : List Nat} {W1 W2 W3 : World} (h : KpD Bs A n c l W1 W2) (k : KpD Bs A n c l W2 W3) : KpD Bs A n c l W1 W3:=⟨fun x=>k.1 (h.1 x),fun x=>k.2 (h.2 x)⟩
theorem KpD.put {Bs n c : Nat} {A : Option Addr} {l : List Nat} (W : World) (lp : Nat) (o o' : Obj) (ho : W.heap[lp]? = some o) (hc : o.isCells = false) : KpD Bs A n c l W (W.putObj lp o'):=
 ⟨fun h=>cell_kept h (grownBy_putObj' W lp o') (fun r e=>by cases e;exact ⟨o,ho,hc⟩),fun h=>Zjm h (grownBy_putObj' W lp o') (fun r e=>by cases e;exact ⟨o,ho,hc⟩)⟩
theorem KpD.set_ {Bs n c : Nat} {A : Option Addr} {l : List Nat} {w W : World} {g o : Nat} (hL : Lim w A n c l) (hg : w.heap.size <= g) (hB : g ≠ Bs) (u : Value) : KpD Bs A n c l W (W.setCell ⟨g,o,none⟩ u):=
 ⟨fun h=>(World.cell?_setCell_other W _ _ u (fun e=>hB (by cases e;rfl))).trans h,fun h=>⟨h.1,h.2.1,h.2.2.1,h.2.2.2.1,fun hn=>by
  obtain ⟨b,o',e,hc⟩:=h.2.2.2.2 hn;obtain ⟨b1,o1,e1,hc1⟩:=hL.2.2.2.2 hn;rw [e] at e1
  cases e1
  have hlt:=Zn (hc1 0 hn)
  exact ⟨b,o',e,fun k hk=>(World.cell?_setCell_other W _ _ u (fun e2=>by cases e2;simp at hlt;omega)).trans (hc k hk)⟩⟩⟩
theorem Zth (d : Nat) (hd : 1 <= d) (lp Bs n c : Nat) (A : Option Addr) (l : List Nat) (J Jx : List { i : Nat // i < n } -> World -> Prop)
    (hY : ∀ pre x W,J pre W -> pre.length < n -> YieldAt Fence.wide (d - 1) Try.prog lp (Zgn l n x) W fun e W' =>
     (e = .returned (.bool true) /\ J (pre ++ [x]) W' /\ KpD Bs A n c l W W') \/ (e = .returned (.bool false) /\ Jx (pre ++ [x]) W'))
    (W : World) (hBs : W.cell? ⟨Bs,0,none⟩ = some (.slice A n c)) (hL : Lim W A n c l) (h0 : J [] W) :
    CallsIn Fence.wide d Try.prog 96 #[.func (.yield lp) #[] #[],.pointer (some ⟨Bs,0,none⟩)] W fun e W'=>(∃ v,e = .returned v) /\
     ((∃ ys,ys = Zcg n n /\ J ys W') \/ (∃ pre,(∃ k,k <= n /\ pre = Zcg n k) /\ Jx pre W')):=by
 have hnc:=hL.2.1;have hcm:=hL.2.2.1;unfold maxLen at hcm;refine callsIn_of_wp Try.func96 rfl trivial ?_ rfl;simp only [Try.ntmps96,List.size_toArray,List.length_cons,List.length_nil,Nat.reduceAdd,Nat.reduceSub,Array.replicate_succ,Array.replicate_zero,List.push_toArray,List.append_toArray,List.nil_append,List.cons_append]
 gi_wp2
 gi_loopw [3] (fun i wr=>∃ k : Nat,k <= n /\ i = .int .i64 ((n : Int) - 1 - k) /\ J (Zcg n k) wr /\ Hid (wr.cell? ⟨Bs,0,none⟩ = some (.slice A n c)) /\ Lim wr A n c l)
  (fun i _=>(intOf i + 1).toNat)
 case atStart=>exact ⟨0,Nat.zero_le _,by go_num,h0,hBs,hL⟩
 case round =>
  obtain ⟨k,hk,rfl,hJs,hbx',hLr⟩:=hrel;have hbx:=hbx'.out
  by_cases hlt : k < n
  ·obtain ⟨b,o,rfl,hcx⟩:=hLr.at_ (k:=n - 1 - k) (by omega)
   obtain ⟨fn,tmps,assign,body,hy,hR⟩:=hY _ ⟨n - 1 - k,by omega⟩ wr hJs (by rw [Zcp hk];exact hlt);dsimp only [Zgn] at hy;rw [show ((n - 1 - k : Nat) : Int) = (n : Int) - 1 - k by omega] at hy
   gi_wp2
   refine hR.mono ?_;rintro e W3 (⟨rfl,hJ3,hk3⟩ | ⟨rfl,hJx3⟩)
   ·have hbx3:=Zb (hk3.1 hbx'.out)
    gi_wp2
    go_roundw
    case rel=>exact ⟨k + 1,by omega,by go_num,by rw [Zcy hlt];exact hJ3,hbx3,hk3.2 hLr⟩
    case measure=>simp [intOf];omega
   ·gi_wp2
    refine bodyPost_ret (results_none rfl _ _ _) rfl ?_;exact ⟨⟨_,rfl⟩,.inr ⟨_,⟨k + 1,by omega,(Zcy hlt).symm⟩,hJx3⟩⟩
  ·obtain rfl : k = n:=by omega
   gi_wp2
   go_end0
   exact ⟨⟨_,rfl⟩,.inl ⟨_,rfl,hJs⟩⟩
theorem Zhg (d : Nat) (hd : 1 <= d) (Bs n c : Nat) (A : Option Addr) (l : List Nat) (w : World) (hc : w.cell? ⟨Bs,0,none⟩ = some (.slice A n c)) (hL : Lim w A n c l) :
    SeqStopsK Fence.wide d Try.prog 96 #[.pointer (some ⟨Bs,0,none⟩)] (Zgn l n) (KpD Bs A n c l) (fun ys=>ys = Zcg n n) (fun pre=>∃ k,k <= n /\ pre = Zcg n k) n w:=fun lp J Jx W hW _ _ hY h0 =>
 Zth d hd lp Bs n c A l J Jx hY W ((hW.cell (Zn hc)).trans hc) (hL.below hW) h0
theorem Zkh (A : Option Addr) (n c : Nat) (w : World) :
    Calls Try.prog 88 #[.slice A n c] w fun e w'=>e = .returned (.func (.func 96) #[] #[.pointer (some ⟨w.heap.size,0,none⟩)]) /\ w.alloc (.cells #[.slice A n c] 24) = w':=by
 go_enter Try.func88,Try.ntmps88
 go_wp2
 go_ret;exact ⟨rfl,rfl⟩
def Zce (a b : List Nat) : Int:=if a.length < b.length then -1 else if b.length < a.length then 1 else if val a < val b then -1 else if val b < val a then 1 else 0
theorem Zkv {l : List Nat} {k : Nat} (h : k < l.length) : val (l.drop k) = l[k]?.getD 0 + 4294967296 * val (l.drop (k + 1)):=by
 rw [List.drop_eq_getElem_cons h,val,List.getElem?_eq_getElem h];rfl
theorem Zjd {a b : List Nat} {n k : Nat} (ha : a.length = n) (hb : b.length = n) (hla : Lt32 a) (hk : k < n) (he : ∀ j,k < j -> j < n -> a[j]?.getD 0 = b[j]?.getD 0) (hlt : a[k]?.getD 0 < b[k]?.getD 0) : val a < val b:=by
 have h1 : ∀ m,k < n - m -> m <= n -> val (a.drop (n - m)) = val (b.drop (n - m)):=by
  intro m
  induction m with
  | zero=>intro _ _;rw [Nat.sub_zero,List.drop_of_length_le (by omega),List.drop_of_length_le (by omega)]
  | succ m ih =>
   intro h h';rw [Zkv (l:=a) (by omega),Zkv (l:=b) (by omega),he _ h (by omega),show n - (m + 1) + 1 = n - m by omega,ih (by omega) (by omega)]
 have h2 : val (a.drop (k + 1)) = val (b.drop (k + 1)):=by
  rcases Nat.lt_or_ge (k + 1) n with h | h
  ·have:=h1 (n - (k + 1)) (by omega) (by omega)
   rwa [show n - (n - (k + 1)) = k + 1 by omega] at this
  ·rw [List.drop_of_length_le (by omega),List.drop_of_length_le (by omega)]
 have h3:=Z4 a k (by omega);have h4:=Z4 b k (by omega);rw [Zkv (by omega)] at h3 h4;have h5:=Zen (hla.take k);rw [List.length_take,Nat.min_eq_left (by omega)] at h5;rw [h3,h4,h2]
 generalize val (b.drop (k + 1)) = t
 have : pw k * (a[k]?.getD 0 + 4294967296 * t + 1) <= pw k * (b[k]?.getD 0 + 4294967296 * t):=Nat.mul_le_mul_left _ (by omega);rw [Nat.mul_add,Nat.mul_one] at this;omega
theorem Zsl {a b : List Nat} {n : Nat} (ha : a.length = n) (hb : b.length = n) (he : ∀ j,j < n -> a[j]?.getD 0 = b[j]?.getD 0) : a = b:=by
 apply List.ext_getElem (by omega)
 intro i h1 h2;have:=he i (by omega)
 rwa [List.getElem?_eq_getElem h1,List.getElem?_eq_getElem h2] at this
theorem Zgf (a : List Nat) : Zce a a = 0:=by simp [Zce]
theorem Zc0 (A B : Option Addr) (n c m d : Nat) (a b : List Nat) (w : World) (ha : Lim w A n c a) (hb : Lim w B m d b) :
    Calls Try.prog 72 #[.slice A n c,.slice B m d] w fun e w'=>e = .returned (.int .i64 (Zce a b)) /\ Below w.heap.size w w':=by
 have hnc:=ha.2.1;have hmd:=hb.2.1;have hcm:=ha.2.2.1;have hdm:=hb.2.2.1;unfold maxLen at hcm hdm
 by_cases h1 : n < m
 ·have hne : (((n : Nat) : Int) != m) = true:=by simp;omega
  have hd : decide (n < m) = true:=by simpa using h1
  have hr : Zce a b = -1:=by unfold Zce;rw [ha.len,hb.len,if_pos h1]
  rw [hr];go_enter Try.func72,Try.ntmps72
  go_wp2
  go_returns;exact ⟨rfl,by go_grown⟩
 by_cases h2 : m < n
 ·have hne : (((n : Nat) : Int) != m) = true:=by simp;omega
  have hd : decide (n < m) = false:=by simpa using h1
  have hr : Zce a b = 1:=by unfold Zce;rw [ha.len,hb.len,if_neg h1,if_pos h2]
  rw [hr];go_enter Try.func72,Try.ntmps72
  go_wp2
  go_returns;exact ⟨rfl,by go_grown⟩
 obtain rfl : n = m:=by omega
 have hne : (((n : Nat) : Int) != n) = false:=by simp
 have h9 : 1 <= 9:=by omega
 refine (callsIn_wide (n:=9)).1 ?_;refine callsIn_of_wp_marks Try.func72 rfl trivial ?_ rfl;simp only [Try.ntmps72,List.size_toArray,List.length_cons,List.length_nil,Nat.reduceAdd,Nat.reduceSub,Array.replicate_succ,Array.replicate_zero,List.push_toArray,List.append_toArray,List.nil_append,List.cons_append]
 gi_wp2_with (refine ⟨trivial,?_⟩;gi_at_call 88;refine (callsIn_wide.2 (Zkh _ _ _ _)).mono ?_;rintro e w' ⟨rfl,rfl⟩)
 have bB:=Boxed.new w 24 (.slice B n d);have bR:=Boxed.new (w.alloc (.cells #[.slice B n d] 24)) 3 (.int .i64 0);have bN:=Boxed.new ((w.alloc (.cells #[.slice B n d] 24)).alloc (.cells #[.int .i64 0] 3)) 24 (.slice A n c);simp only [World.size_alloc] at bR bN
 have hB0 : Below w.heap.size w (((w.alloc (.cells #[.slice B n d] 24)).alloc (.cells #[.int .i64 0] 3)).alloc (.cells #[.slice A n c] 24)):=by go_grown
 refine wpIn_rangeFunc_ownF rfl h9 (gf:=96) (lb:=#[.pointer (some ⟨w.heap.size + 1 + 1,0,none⟩)]) rfl trivial (enters_of Try.func96 (by kernel_rfl) rfl)
  (Zhg 8 (by omega) (w.heap.size + 1 + 1) n c A a _ bN.cell (ha.below hB0)) KpD.trans (fun W l o o' _ h hc _=>KpD.put W l o o' h hc) (Below.refl _ _) (fun _=>rfl)
  (fun pre W=>((∀ p ∈ pre,a[p.1]?.getD 0 = b[p.1]?.getD 0) /\ W.cell? ⟨w.heap.size,0,none⟩ = some (.slice B n d) /\ W.cell? ⟨w.heap.size + 1,0,none⟩ = some (.int .i64 0) /\ W.frozen? ⟨w.heap.size + 1,0,none⟩ = false) /\ Below w.heap.size w W)
  (fun cc pre W=>(cc = .ret /\ ∃ ini last,pre = ini ++ [last] /\ (∀ p ∈ ini,a[p.1]?.getD 0 = b[p.1]?.getD 0) /\
   ((a[last.1]?.getD 0 < b[last.1]?.getD 0 /\ W.cell? ⟨w.heap.size + 1,0,none⟩ = some (.int .i64 (-1))) \/ (b[last.1]?.getD 0 < a[last.1]?.getD 0 /\ W.cell? ⟨w.heap.size + 1,0,none⟩ = some (.int .i64 1)))) /\ Below w.heap.size w W)
  (OwnFrom.and (Own.from (fun s X Y row hs hg hr=>⟨hs.1,cell_kept hs.2.1 hg hr,cell_kept hs.2.2.1 hg hr,(frozen_kept hs.2.2.1 hg hr).trans hs.2.2.2⟩) _) (ownFrom_below (Nat.le_refl _) (by simp;omega)))
  (fun cc=>OwnFrom.and (Own.from (fun s X Y row hs hg hr=>by
   obtain ⟨hc,ini,last,e1,e2,e3⟩:=hs;refine ⟨hc,ini,last,e1,e2,?_⟩
   rcases e3 with ⟨e3,e4⟩ | ⟨e3,e4⟩
   ·exact .inl ⟨e3,cell_kept e4 hg hr⟩
   ·exact .inr ⟨e3,cell_kept e4 hg hr⟩) _) (ownFrom_below (Nat.le_refl _) (by simp;omega)))
  ⟨⟨by simp,((bB.alloc _).alloc _).cell,(bR.alloc _).cell,(bR.alloc _).frozen⟩,hB0⟩
  (fun x=>{ tmps:=#[.slice A n c,.slice B n d,undef,.pointer (some ⟨w.heap.size,0,none⟩),.pointer (some ⟨w.heap.size + 1,0,none⟩),.int .i64 (x.1 : Int),limb (a[x.1]?.getD 0),.slice A n c,
   .int .i64 n,.slice B n d,.int .i64 n,.bool false,undef,undef,undef,undef,undef,.slice A n c,.func (.func 96) #[] #[.pointer (some ⟨w.heap.size + 1 + 1,0,none⟩)],.int .i64 (x.1 : Int),limb (a[x.1]?.getD 0),
   undef,undef,undef,undef,undef,undef,undef,undef,undef,undef,undef,undef],defers:=[] }) ?assign ?body ?done ?stop
 case assign =>
  intro l x W K hK;dsimp only [Zgn]
  gi_wp2
  exact hK
 case body =>
  rintro l pre x W ⟨⟨hp,hcB,hcr,hfr⟩,hB⟩ _;obtain ⟨i,hi⟩:=x;obtain ⟨bb,ob,rfl,hcx⟩:=(hb.below hB).at_ hi
  by_cases t1 : a[i]?.getD 0 < b[i]?.getD 0
  ·have hd1 : decide (a[i]?.getD 0 < b[i]?.getD 0) = true:=by simpa using t1
   gi_wp2
   exact ⟨KeepsOthers.setCell _ _ _,⟨rfl,pre,⟨i,hi⟩,rfl,hp,.inl ⟨t1,World.cell?_setCell_same' _ _ _ (by rw [hcr];rfl)⟩⟩,hB.setCell (p:=⟨w.heap.size + 1,0,none⟩) (by simp) _⟩
  ·have hd1 : decide (a[i]?.getD 0 < b[i]?.getD 0) = false:=by simpa using t1
   by_cases t2 : b[i]?.getD 0 < a[i]?.getD 0
   ·have hd2 : decide (b[i]?.getD 0 < a[i]?.getD 0) = true:=by simpa using t2
    gi_wp2
    exact ⟨KeepsOthers.setCell _ _ _,⟨rfl,pre,⟨i,hi⟩,rfl,hp,.inr ⟨t2,World.cell?_setCell_same' _ _ _ (by rw [hcr];rfl)⟩⟩,hB.setCell (p:=⟨w.heap.size + 1,0,none⟩) (by simp) _⟩
   ·have hd2 : decide (b[i]?.getD 0 < a[i]?.getD 0) = false:=by simpa using t2
    gi_wp2
    exact ⟨KeepsOthers.refl _,KpD.refl _ _ _ _ _ _,⟨fun p hp'=>(List.mem_append.1 hp').elim (hp p) (fun e=>by simp at e;subst e;simp;omega),hcB,hcr,hfr⟩,hB⟩
 case done =>
  rintro D ys W hD rfl ⟨⟨hne,hcB,hcr,hfr⟩,hB⟩ hK;have hab : a = b:=Zsl ha.len hb.len (fun j hj=>hne ⟨j,hj⟩ ((Zku (Nat.le_refl _) _).2 (by simp)))
  gi_wp2
  have hK':=(KeepsOthers.setCell W ⟨w.heap.size + 1,0,none⟩ (.int .i64 0)).same D _ hK rfl;refine ⟨by simp,.inl ⟨_,_,rfl,run_takeDeferred hK',?_⟩⟩;have hc5:=cell_kept (World.cell?_setCell_same' W ⟨w.heap.size + 1,0,none⟩ (.int .i64 0) (by rw [hcr];rfl)) (grownBy_putObj' _ D (.deferred none)) (fun r e=>by cases e;exact ⟨_,hK',rfl⟩);refine ⟨.int .i64 0,?_,by rw [hab,Zgf],(hB.setCell (p:=⟨w.heap.size + 1,0,none⟩) (by simp) _).trans (belowK_b (w:=w) (Nat.le_refl _) _ D _ _ (by simp at hD;omega) hK' rfl rfl)⟩
  simp [results,Try.f72,go_sem,hc5]
 case stop =>
  rintro D cc pre W hD ⟨k,hk,rfl⟩ ⟨⟨rfl,ini,last,e1,e2,e3⟩,hB⟩ hK
  obtain ⟨k',rfl⟩ : ∃ k',k = k' + 1:=by
   cases k with
   | zero=>simp [Zcg] at e1
   | succ k'=>exact ⟨k',rfl⟩
  rw [Zcy (by omega)] at e1;obtain ⟨rfl,e5⟩:=List.append_inj' e1 rfl
  have e6 : last.1 = n - 1 - k':=by
   have:=congrArg (List.map (fun z : { i : Nat // i < n }=>z.1)) e5
   simpa using this.symm
  rw [e6] at e3
  have he : ∀ j,n - 1 - k' < j -> j < n -> a[j]?.getD 0 = b[j]?.getD 0:=fun j hj hj'=>e2 ⟨j,hj'⟩ ((Zku (by omega) _).2 (by simp;omega))
  obtain ⟨r,hcr,hr⟩ : ∃ r : Int,W.cell? ⟨w.heap.size + 1,0,none⟩ = some (.int .i64 r) /\ Zce a b = r:=by
   rcases e3 with ⟨e3,e4⟩ | ⟨e3,e4⟩
   ·have:=Zjd ha.len hb.len ha.lt (by omega) he e3
    exact ⟨_,e4,by unfold Zce;rw [ha.len,hb.len];simp [this]⟩
   ·have:=Zjd hb.len ha.len hb.lt (by omega) (fun j h h'=>(he j h h').symm) e3
    exact ⟨_,e4,by unfold Zce;rw [ha.len,hb.len];simp [this];omega⟩
  gi_wp2
  refine ⟨by simp,.inl ⟨_,_,rfl,run_takeDeferred hK,?_⟩⟩;have hc5:=cell_kept hcr (grownBy_putObj' _ D (.deferred none)) (fun r e=>by cases e;exact ⟨_,hK,rfl⟩);refine ⟨.int .i64 r,?_,by rw [hr],hB.trans (belowK_b (w:=w) (Nat.le_refl _) W D _ _ (by simp at hD;omega) hK rfl rfl)⟩
  simp [results,Try.f72,go_sem,hc5]
end Go.Proofs.Ythappeninglakaa
