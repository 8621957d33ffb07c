/- Limbs of 32 bits, the lowest one first: what a list of -/
import Derived.WalkKit
import Derived.WalkSpells
import Derived.WalkLawsBesides
import Derived.Lib.Hide
import Derived.Laws.OwnMore
import Derived.Deep.AppendLies
import Derived.Deep.Draws
import Derived.Laws.Rows
import Derived.Deep.OwnRows
import Derived.OwnWalk
import Derived.Handy
import Derived.IntWalk
import Derived.Test.YtpehacgjclkhmaaGreatRows
set_option maxRecDepth 100000
set_option maxHeartbeats 1000000
set_option linter.unusedSimpArgs false
set_option linter.unusedVariables false
namespace Go.Proofs.YtpehacgjclkhmaaGreat
def val : List Nat -> Nat
 | []=>0
 | x :: l=>x + 4294967296 * val l
def Lt32 (l : List Nat) : Prop:=∀ x ∈ l,x < 4294967296
def digits (n : Nat) : List Nat:=if h : n = 0 then [] else n % 4294967296 :: digits (n / 4294967296)
termination_by n
decreasing_by omega
def canon : List Nat -> List Nat
 | []=>[]
 | x :: l=>match canon l with
  | []=>if x = 0 then [] else [x]
  | y :: m=>x :: y :: m
def pw (k : Nat) : Nat:=4294967296 ^ k
theorem Zb0 : pw 0 = 1:=rfl
theorem Z8 (k : Nat) : pw (k + 1) = 4294967296 * pw k:=by unfold pw;rw [Nat.pow_succ,Nat.mul_comm]
theorem Zdr (a b : Nat) : pw (a + b) = pw a * pw b:=by unfold pw;rw [Nat.pow_add]
theorem Zdx (k : Nat) : 0 < pw k:=Nat.pow_pos (by decide)
theorem Ze0 {a b : Nat} (h : a <= b) : pw a <= pw b:=Nat.pow_le_pow_right (by decide) h
theorem Zgi {a b : Nat} (h : a < b) : pw a < pw b:=Nat.pow_lt_pow_right (by decide) h
theorem Lt32.nil : Lt32 []:=fun _ h=>by cases h
theorem Lt32.cons {x : Nat} {l : List Nat} (h : x < 4294967296) (hl : Lt32 l) : Lt32 (x :: l):=fun y hy=>by
 rcases List.mem_cons.1 hy with rfl | hy
 ·exact h
 ·exact hl y hy
theorem Lt32.head {x : Nat} {l : List Nat} (h : Lt32 (x :: l)) : x < 4294967296:=h x (by simp)
theorem Lt32.tail {x : Nat} {l : List Nat} (h : Lt32 (x :: l)) : Lt32 l:=fun y hy=>h y (by simp [hy])
theorem Lt32.get {l : List Nat} (h : Lt32 l) (k : Nat) : l[k]?.getD 0 < 4294967296:=by
 rcases Nat.lt_or_ge k l.length with hk | hk
 ·rw [List.getElem?_eq_getElem hk];exact h _ (List.getElem_mem hk)
 ·rw [List.getElem?_eq_none hk];decide
theorem Lt32.take {l : List Nat} (h : Lt32 l) (k : Nat) : Lt32 (l.take k):=fun x hx=>h x (List.mem_of_mem_take hx)
theorem Lt32.drop {l : List Nat} (h : Lt32 l) (k : Nat) : Lt32 (l.drop k):=fun x hx=>h x (List.mem_of_mem_drop hx)
theorem Lt32.append {l m : List Nat} (h : Lt32 l) (h' : Lt32 m) : Lt32 (l ++ m):=fun x hx=>by
 rcases List.mem_append.1 hx with hx | hx
 ·exact h x hx
 ·exact h' x hx
theorem Lt32.set {l : List Nat} (h : Lt32 l) (k : Nat) {v : Nat} (hv : v < 4294967296) : Lt32 (l.set k v):=fun x hx=>by
 rcases List.mem_or_eq_of_mem_set hx with hx | rfl
 ·exact h x hx
 ·exact hv
theorem Lt32.replicate (n : Nat) : Lt32 (List.replicate n 0):=fun x hx=>by
 rw [(List.mem_replicate.1 hx).2];decide
theorem Ze7 (a b : List Nat) : val (a ++ b) = val a + pw a.length * val b:=by
 induction a with
 | nil=>simp [val,Zb0]
 | cons x l ih=>simp only [List.cons_append,val,ih,List.length_cons,Z8];grind
theorem Zdc {l : List Nat} (h : Lt32 l) : val l < pw l.length:=by
 induction l with
 | nil=>simp [val,Zb0]
 | cons x l ih=>have:=ih h.tail;have:=h.head;simp only [val,List.length_cons,Z8];omega
theorem Zch (n : Nat) : val (List.replicate n 0) = 0:=by
 induction n with
 | zero=>rfl
 | succ n ih=>simp [List.replicate_succ,val,ih]
theorem Zep {l : List Nat} {k : Nat} (hk : k < l.length) (v : Nat) : val (l.set k v) + pw k * (l[k]?.getD 0) = val l + pw k * v:=by
 induction l generalizing k with
 | nil=>simp at hk
 | cons x l ih =>
  cases k with
  | zero=>simp [val,Zb0];omega
  | succ k=>have:=ih (k:=k) (by simpa using hk);simp only [List.set_cons_succ,val,List.getElem?_cons_succ,Z8];grind
theorem Zs (l : List Nat) (k : Nat) : val (l.take (k + 1)) = val (l.take k) + pw k * (l[k]?.getD 0):=by
 induction l generalizing k with
 | nil=>simp [val]
 | cons x l ih =>
  cases k with
  | zero=>simp [val,Zb0]
  | succ k=>have:=ih k;simp only [List.take_succ_cons,val,List.getElem?_cons_succ,Z8];grind
theorem Zu {l : List Nat} {k : Nat} (h : l.length <= k) : val (l.take k) = val l:=by rw [List.take_of_length_le h]
theorem Zz (l : List Nat) (k : Nat) (h : k <= l.length) : val l = val (l.take k) + pw k * val (l.drop k):=by
 have:=Ze7 (l.take k) (l.drop k);rw [List.take_append_drop,List.length_take,Nat.min_eq_left h] at this;exact this
theorem Zy : digits 0 = []:=by unfold digits;simp
theorem Zav {n : Nat} (h : n ≠ 0) : digits n = n % 4294967296 :: digits (n / 4294967296):=by rw [digits];simp [h]
theorem Zf (n : Nat) : val (digits n) = n:=by
 induction n using Nat.strongRecOn with
 | _ n ih =>
  by_cases h : n = 0
  ·subst h;rw [Zy];rfl
  ·rw [Zav h,val,ih _ (by omega)];omega
theorem Zc6 (n : Nat) : Lt32 (digits n):=by
 induction n using Nat.strongRecOn with
 | _ n ih =>
  by_cases h : n = 0
  ·subst h;rw [Zy];exact Lt32.nil
  ·rw [Zav h];exact (ih _ (by omega)).cons (by omega)
theorem digits_eq_nil {n : Nat} : digits n = [] ↔ n = 0:=by
 constructor
 ·intro h;have:=Zf n;rw [h] at this;exact this.symm
 ·rintro rfl;exact Zy
theorem Zd2 (n : Nat) : (digits n).getLast? ≠ some 0:=by
 induction n using Nat.strongRecOn with
 | _ n ih =>
  by_cases h : n = 0
  ·subst h;rw [Zy];simp
  ·rw [Zav h]
   have:=ih (n / 4294967296) (by omega)
   by_cases h' : n / 4294967296 = 0
   ·rw [h',Zy];simp;omega
   ·obtain ⟨y,m,hm⟩:=List.exists_cons_of_ne_nil (fun e=>h' (digits_eq_nil.1 e))
    rw [hm] at this ⊢
    simpa using this
theorem Zn (n k : Nat) : (digits n).length <= k ↔ n < pw k:=by
 induction k generalizing n with
 | zero =>
  rw [Zb0]
  constructor
  ·intro h;have:=digits_eq_nil.1 (List.eq_nil_of_length_eq_zero (Nat.le_zero.1 h));omega
  ·intro h;have : n = 0:=by omega
   subst this;rw [Zy];simp
 | succ k ih =>
  by_cases h : n = 0
  ·subst h;rw [Zy];simp [Zdx]
  ·rw [Zav h,List.length_cons,Nat.succ_le_succ_iff,ih,Z8,Nat.div_lt_iff_lt_mul (by decide),Nat.mul_comm]
theorem Za1 (n : Nat) : n < pw (digits n).length:=(Zn n _).1 (Nat.le_refl _)
theorem Zcq {n k : Nat} (h : k < (digits n).length) : pw k <= n:=by
 rcases Nat.lt_or_ge n (pw k) with h' | h'
 ·have:=(Zn n k).2 h';omega
 ·exact h'
theorem Zp {m n : Nat} (h : m <= n) : (digits m).length <= (digits n).length:=(Zn _ _).2 (Nat.lt_of_le_of_lt h (Za1 n))
theorem Zlm {l : List Nat} (h : Lt32 l) : canon l = digits (val l):=by
 induction l with
 | nil=>rw [val,Zy];rfl
 | cons x l ih =>
  have hx:=h.head;rw [canon,ih h.tail,val]
  by_cases h0 : val l = 0
  ·rw [h0,Zy]
   by_cases hx0 : x = 0
   ·simp [hx0,Zy]
   ·simp only [hx0,if_false]
    rw [Zav (by omega),show (x + 4294967296 * 0) / 4294967296 = 0 by omega,Zy,show (x + 4294967296 * 0) % 4294967296 = x by omega]
  ·rw [Zav (n:=x + 4294967296 * val l) (by omega),show (x + 4294967296 * val l) / 4294967296 = val l by omega,show (x + 4294967296 * val l) % 4294967296 = x by omega]
   obtain ⟨y,m,hm⟩:=List.exists_cons_of_ne_nil (fun e=>h0 (digits_eq_nil.1 e));rw [hm]
theorem Zjl {l : List Nat} (h : Lt32 l) (hl : l.getLast? ≠ some 0) : l = digits (val l):=by
 rw [<- Zlm h]
 induction l with
 | nil=>rfl
 | cons x l ih =>
  cases l with
  | nil=>simp only [canon];simp at hl;simp [hl]
  | cons y m =>
   have:=ih h.tail (by simpa using hl);rw [canon,<- this]
theorem Zdo {l : List Nat} {k : Nat} (hz : ∀ j,k <= j -> l[j]?.getD 0 = 0) (hk : k = 0 \/ l[k - 1]?.getD 0 ≠ 0) (hl : Lt32 l) : digits (val l) = l.take k:=by
 have hv : val l = val (l.take k):=by
  rcases Nat.lt_or_ge l.length k with h | h
  ·rw [List.take_of_length_le (by omega)]
  ·rw [Zz l k h]
   have : val (l.drop k) = 0:=by
    have : ∀ m : List Nat,(∀ j : Nat,m[j]?.getD 0 = 0) -> val m = 0:=by
     intro m
     induction m with
     | nil=>intro _;rfl
     | cons x m ih =>
      intro hm;have h0:=hm 0;have:=ih (fun j=>by simpa using hm (j + 1))
      simp at h0
      simp [val,h0,this]
    exact this _ (fun j=>by rw [List.getElem?_drop];exact hz _ (by omega))
   rw [this];simp
 rw [hv];refine (Zjl (hl.take k) ?_).symm
 rcases hk with rfl | hk
 ·simp
 ·intro h
  have hkl : k - 1 < l.length:=by
   rcases Nat.lt_or_ge (k - 1) l.length with h' | h'
   ·exact h'
   ·rw [List.getElem?_eq_none h'] at hk;simp at hk
  rw [List.getLast?_eq_getElem?,List.length_take] at h;rw [List.getElem?_take] at h
  split at h
  ·rename_i hlt
   rcases Nat.lt_or_ge k l.length with h' | h'
   ·rw [Nat.min_eq_left (by omega)] at h;rw [h] at hk;simp at hk
   ·have : min k l.length - 1 = k - 1:=by omega
    rw [this] at h;rw [h] at hk;simp at hk
  ·cases h
theorem val_inj {a b : List Nat} (ha : Lt32 a) (hb : Lt32 b) (hl : a.length = b.length) (h : val a = val b) : a = b:=by
 induction a generalizing b with
 | nil=>cases b with
  | nil=>rfl
  | cons _ _=>simp at hl
 | cons x a ih=>cases b with
  | nil=>simp at hl
  | cons y b =>
   have hx:=ha.head;have hy:=hb.head;simp only [val] at h
   obtain rfl : x = y:=by omega
   rw [ih ha.tail hb.tail (by simpa using hl) (by omega)]
theorem Zoh {a b out : List Nat} {k carry s c' : Nat} (hk : k < out.length) (hz : out[k]?.getD 0 = 0) (hI : val out + pw k * carry = val (a.take k) + val (b.take k))
    (he : s + 4294967296 * c' = a[k]?.getD 0 + b[k]?.getD 0 + carry) : val (out.set k s) + pw (k + 1) * c' = val (a.take (k + 1)) + val (b.take (k + 1)):=by
 have h:=Zep hk s;rw [hz] at h;rw [Zs,Zs,Z8]
 have : pw k * (s + 4294967296 * c') = pw k * (a[k]?.getD 0 + b[k]?.getD 0 + carry):=by rw [he]
 grind
theorem Zmx {a b out : List Nat} {k borrow s c' : Nat} (hk : k < out.length) (hz : out[k]?.getD 0 = 0) (hI : val out + val (b.take k) = val (a.take k) + pw k * borrow)
    (he : s + b[k]?.getD 0 + borrow = a[k]?.getD 0 + 4294967296 * c') : val (out.set k s) + val (b.take (k + 1)) = val (a.take (k + 1)) + pw (k + 1) * c':=by
 have h:=Zep hk s;rw [hz] at h;rw [Zs,Zs,Z8]
 have : pw k * (s + b[k]?.getD 0 + borrow) = pw k * (a[k]?.getD 0 + 4294967296 * c'):=by rw [he]
 grind
theorem getD_set_ne {l : List Nat} {i j : Nat} (v : Nat) (h : i ≠ j) : (l.set i v)[j]?.getD 0 = l[j]?.getD 0:=by rw [List.getElem?_set_ne h]
theorem Zgl {l : List Nat} {i : Nat} (v : Nat) (h : i < l.length) : (l.set i v)[i]?.getD 0 = v:=by rw [List.getElem?_set_self h];rfl
theorem getD_none {l : List Nat} {i : Nat} (h : l.length <= i) : l[i]?.getD 0 = 0:=by rw [List.getElem?_eq_none h];rfl
theorem Zb8 (n i : Nat) : (List.replicate n 0)[i]?.getD 0 = 0:=by
 rw [List.getElem?_replicate];split <;> rfl
theorem Zmr {a b out : List Nat} {i k carry s q : Nat} (hk : i + k < out.length)
    (hI : val out + pw (i + k) * carry = val (a.take i) * val b + pw i * (a[i]?.getD 0 * val (b.take k)))
    (he : s + 4294967296 * q = carry + a[i]?.getD 0 * b[k]?.getD 0 + out[i + k]?.getD 0) :
    val (out.set (i + k) s) + pw (i + (k + 1)) * q = val (a.take i) * val b + pw i * (a[i]?.getD 0 * val (b.take (k + 1))):=by
 have h:=Zep hk s;rw [Zs,show i + (k + 1) = (i + k) + 1 by omega,Z8]
 have e1 : pw (i + k) * (s + 4294967296 * q) = pw (i + k) * (carry + a[i]?.getD 0 * b[k]?.getD 0 + out[i + k]?.getD 0):=by rw [he]
 have e2:=Zdr i k
 generalize pw (i + k) = P at *
 subst e2
 grind
theorem Zom {a b out : List Nat} {i carry : Nat} (hk : i + b.length < out.length) (hz : out[i + b.length]?.getD 0 = 0)
    (hI : val out + pw (i + b.length) * carry = val (a.take i) * val b + pw i * (a[i]?.getD 0 * val b)) :
    val (out.set (i + b.length) carry) = val (a.take (i + 1)) * val b:=by
 have h:=Zep hk carry;rw [hz] at h;rw [Zs]
 grind
theorem Zqq {x y z c s q : Nat} (hx : x < 4294967296) (hy : y < 4294967296) (hz : z < 4294967296) (hc : c < 4294967296) (he : s + 4294967296 * q = c + x * y + z) : q < 4294967296:=by
 have : x * y <= 4294967295 * 4294967295:=Nat.mul_le_mul (by omega) (by omega);omega
open Go.RowKit
theorem Za {p : Prop} (h : p) : Hid p:=h
theorem Zju (a : Addr) (n : Nat) : (a.add n).block = a.block:=by unfold Addr.add;split <;> rfl
theorem Zg (g o n : Nat) : (⟨g,o,none⟩ : Addr).add n = ⟨g,o + n,none⟩:=by
 unfold Addr.add;split
 ·subst_vars;rfl
 ·rfl
theorem Zr {w : World} {p : Addr} {v : Value} (h : w.cell? p = some v) : p.block < w.heap.size:=by
 unfold World.cell? at h
 rcases Nat.lt_or_ge p.block w.heap.size with hlt | hge
 ·exact hlt
 ·rw [Array.getElem?_eq_none hge] at h;cases h
def Blk (w : World) (g : Nat) (t : TypeId) (cs : Array Value) : Prop:=w.heap[g]? = some (.cells cs t (0,0))
section
variable {w w' : World} {g : Nat} {t : TypeId} {cs : Array Value}
theorem Blk.lt (h : Blk w g t cs) : g < w.heap.size:=by
 rcases Nat.lt_or_ge g w.heap.size with hlt | hge
 ·exact hlt
 ·unfold Blk at h;rw [Array.getElem?_eq_none hge] at h;cases h
theorem Blk.cell (h : Blk w g t cs) (i : Nat) : w.cell? ⟨g,i,none⟩ = cs[i]?:=cell_of_row w g i cs t (0,0) h
theorem Blk.frozen (h : Blk w g t cs) (i : Nat) : w.frozen? ⟨g,i,none⟩ = false:=by
 unfold Blk at h
 simp [World.frozen?,h]
theorem Blk.new (w : World) (t : TypeId) (cs : Array Value) : Blk (w.alloc (.cells cs t)) w.heap.size t cs:=heap_alloc_new w _
theorem Blk.drewN (h : Blk w g t cs) (n : Nat) : Blk (w.drewN n) g t cs:=h
theorem Blk.alloc (h : Blk w g t cs) (o : Obj) : Blk (w.alloc o) g t cs:=(Below.heap_alloc w o g h.lt).trans h
theorem Blk.set_ (h : Blk w g t cs) (i : Nat) (u : Value) : Blk (w.setCell ⟨g,i,none⟩ u) g t (cs.setIfInBounds i u):=by
 unfold Blk at h ⊢
 simp [World.setCell,Array.getElem?_modify,h]
theorem Blk.far (h : Blk w g t cs) {p : Addr} (hp : g ≠ p.block) (u : Value) : Blk (w.setCell p u) g t cs:=(Below.heap_setCell w p u g hp).trans h
theorem Blk.below {B : Nat} (h : Blk w g t cs) (hb : Below B w w') (hg : g < B) : Blk w' g t cs:=(hb.block g hg).trans h
end
theorem Zir {A : Option Addr} {n n' c : Nat} (h : n = n') : Ending.returned (.slice A n c) = .returned (.slice A n' c):=by rw [h]
theorem Zfs {k : IntKind} {a b : Int} (h : a = b) : Ending.returned (.int k a) = .returned (.int k b):=by rw [h]
theorem Zlb {a b : Bool} (h : a = b) : Ending.returned (.bool a) = .returned (.bool b):=by rw [h]
abbrev limb (x : Nat) : Value:=.int .u32 (x : Int)
def Zk (l : List Nat) : Array Value:=(l.map limb).toArray
theorem Z4 (l : List Nat) (i : Nat) (h : i < l.length) : (Zk l)[i]? = some (limb (l[i]?.getD 0)):=by
 simp [Zk,List.getElem?_eq_getElem h]
theorem Zao (l : List Nat) (i v : Nat) : (Zk l).setIfInBounds i (limb v) = Zk (l.set i v):=by
 simp [Zk,List.map_set]
def Lim (w : World) (A : Option Addr) (n c : Nat) (l : List Nat) : Prop:=
 l.length = n /\ n <= c /\ c <= maxLen /\ Lt32 l /\ (0 < n -> ∃ b o,A = some ⟨b,o,none⟩ /\ ∀ k,k < n -> w.cell? ⟨b,o + k,none⟩ = some (limb (l[k]?.getD 0)))
section
variable {w w' : World} {A : Option Addr} {n c : Nat} {l : List Nat}
theorem Lim.len (h : Lim w A n c l) : l.length = n:=h.1
theorem Lim.lt (h : Lim w A n c l) : Lt32 l:=h.2.2.2.1
theorem Lim.nil (w : World) (A : Option Addr) (c : Nat) (hc : c <= maxLen) : Lim w A 0 c []:=⟨rfl,Nat.zero_le _,hc,Lt32.nil,fun h=>absurd h (by omega)⟩
theorem Lim.at_ (h : Lim w A n c l) {k : Nat} (hk : k < n) : ∃ b o,A = some ⟨b,o,none⟩ /\ w.cell? ⟨b,o + k,none⟩ = some (limb (l[k]?.getD 0)):=by
 obtain ⟨b,o,e,hc⟩:=h.2.2.2.2 (by omega);exact ⟨b,o,e,hc k hk⟩
theorem Lim.cell {b o : Nat} (h : Lim w (some ⟨b,o,none⟩) n c l) {k : Nat} (hk : k < n) : w.cell? ⟨b,o + k,none⟩ = some (limb (l[k]?.getD 0)):=by
 obtain ⟨b',o',e,hc⟩:=h.at_ hk
 cases e;exact hc
theorem Lim.keep (h : Lim w A n c l) (hk : ∀ p : Addr,p.block < w.heap.size -> w'.cell? p = w.cell? p) : Lim w' A n c l:=
 ⟨h.1,h.2.1,h.2.2.1,h.2.2.2.1,fun hn=>by
  obtain ⟨b,o,e,hc⟩:=h.2.2.2.2 hn
  exact ⟨b,o,e,fun k hk'=>(hk _ (Zr (hc k hk'))).trans (hc k hk')⟩⟩
theorem Lim.below (h : Lim w A n c l) (hb : Below w.heap.size w w') : Lim w' A n c l:=h.keep fun _ hp=>hb.cell hp
theorem Lim.drew (h : Lim w A n c l) : Lim w.drew A n c l:=h
theorem Lim.drewN (h : Lim w A n c l) (k : Nat) : Lim (w.drewN k) A n c l:=h
theorem Lim.alloc (h : Lim w A n c l) (o : Obj) : Lim (w.alloc o) A n c l:=h.below ((Below.refl _ _).alloc (Nat.le_refl _) _)
theorem Lim.take (h : Lim w A n c l) {k : Nat} (hk : k <= n) : Lim w A k c (l.take k):=
 ⟨by rw [List.length_take,h.len];omega,by have:=h.2.1;omega,h.2.2.1,h.lt.take k,fun h0=>by
  obtain ⟨b,o,e,hc⟩:=h.2.2.2.2 (by omega);refine ⟨b,o,e,fun j hj=>?_⟩
  rw [hc j (by omega),List.getElem?_take,if_pos hj]⟩
theorem Lim.lt_pw (h : Lim w A n c l) : val l < pw n:=by have:=Zdc h.lt;rw [h.len] at this;exact this
theorem Lim.of_blk {g : Nat} {t : TypeId} (h : Blk w g t (Zk l)) (hl : Lt32 l) (hn : l.length <= maxLen) : Lim w (some ⟨g,0,none⟩) l.length l.length l:=
 ⟨rfl,Nat.le_refl _,hn,hl,fun _=>⟨_,_,rfl,fun k hk=>by rw [Nat.zero_add,h.cell,Z4 l k hk]⟩⟩
theorem Lim.canon (h : Lim w A n c l) : Lim w A (digits (val l)).length c (digits (val l)) /\ (digits (val l)).length <= n:=by
 have hle : (digits (val l)).length <= n:=(Zn _ _).2 h.lt_pw;have ht:=h.take hle
 have : l.take (digits (val l)).length = digits (val l):=by
  have hv : val (l.take (digits (val l)).length) = val l:=by
   have h1:=Zz l (digits (val l)).length (by rw [h.len];exact hle);have h2:=Za1 (val l)
   rcases Nat.eq_zero_or_pos (val (l.drop (digits (val l)).length)) with h0 | h0
   ·rw [h0] at h1;omega
   ·have:=Nat.mul_le_mul_left (pw (digits (val l)).length) h0;omega
  refine val_inj (h.lt.take _) (Zc6 _) ?_ ?_
  ·rw [List.length_take,h.len];omega
  ·rw [hv,Zf]
 rw [this] at ht;exact ⟨ht,hle⟩
end
def OutL (w : World) (P : List Nat -> Prop) (e : Ending) (w' : World) : Prop:=
 ∃ A n c l,e = .returned (.slice A n c) /\ Lim w' A n c l /\ P l /\ Below w.heap.size w w'
theorem Zel {P : Program} (t e : TypeId) {i : TypeInfo} (ht : P.underlying t = some (.slice e)) (hi : P.info? e = some i) (hz : i.zero = some (.int .u32 0)) (hs : i.size = 1) (hb : i.bytes = 4)
    (x : Int) (n : Nat) (hx : x = n) (hn : n <= 70368744177664) (W : World) :
    (Instr.makeSlice t (.int .i64 x) (.int .i64 x)).run P W = .ok (.slice (some ⟨W.heap.size,0,none⟩) n n) (W.alloc (.cells (Zk (List.replicate n 0)) e)):=by
 subst hx;have hr:=run_make (P:=P) W t e i (.int .u32 0) ht hi hz .i64 .i64 n n (by omega) (by omega) (by rw [hb];omega) (by omega);simp only [Int.toNat_natCast] at hr;rw [hr]
 have : madeCells (Value.int .u32 0).cells (n * i.size) = Zk (List.replicate n 0):=by
  rw [hs,Nat.mul_one]
  apply Array.toList_inj.1
  rw [show (Value.int .u32 0).cells = #[.int .u32 0] from rfl,toList_madeCells_one]
  simp [Zk]
 rw [this]
def sg (neg : Bool) (v : Nat) : Int:=if neg then -(v : Int) else v
def Wd (w : World) (neg : Bool) (A : Option Addr) (n c : Nat) (z : Int) : Prop:=neg = decide (z < 0) /\ n <= 4096 /\ Lim w A n c (digits z.natAbs)
def ResP (w' : World) (z : Int) (neg : Bool) (A : Option Addr) (n c : Nat) (code : Int) : Prop:=
 (z.natAbs < pw 4096 /\ code = 0 /\ Wd w' neg A n c z) \/ (pw 4096 <= z.natAbs /\ code = 16 /\ neg = false /\ A = none /\ n = 0 /\ c = 0)
def ResW (w : World) (z : Int) (e : Ending) (w' : World) : Prop:=
 Below w.heap.size w w' /\ ∃ neg A n c code,e = .returned (.tuple #[.agg #[.bool neg,.slice A n c],.int .i64 code]) /\ ResP w' z neg A n c code
section
variable {w w' : World} {neg : Bool} {A : Option Addr} {n c : Nat} {z : Int}
theorem Wd.below (h : Wd w neg A n c z) (hb : Below w.heap.size w w') : Wd w' neg A n c z:=⟨h.1,h.2.1,h.2.2.below hb⟩
theorem Wd.lim (h : Wd w neg A n c z) : Lim w A n c (digits z.natAbs):=h.2.2
theorem Wd.small (h : Wd w neg A n c z) : z.natAbs < pw 4096:=by
 have:=h.2.2.len;exact (Zn _ _).1 (by rw [this];exact h.2.1)
theorem Wd.zero (w : World) : Wd w false none 0 0 0:=⟨by simp,by omega,by rw [show digits (Int.natAbs 0) = [] from Zy];exact Lim.nil _ _ _ (Nat.zero_le _)⟩
theorem Wd.sgEq (h : Wd w neg A n c z) : sg neg (val (digits z.natAbs)) = z:=by
 rw [h.1,Zf];unfold sg;split <;> simp_all <;> omega
theorem Zw (neg : Bool) (v : Nat) : (sg neg v).natAbs = v:=by unfold sg;split <;> simp
theorem Zh1 (neg : Bool) (v : Nat) : decide (sg neg v < 0) = (neg && decide (0 < v)):=by
 unfold sg;cases neg <;> simp
theorem length_digits_pos {v : Nat} : 0 < (digits v).length ↔ 0 < v:=by
 constructor
 ·intro h;rcases Nat.eq_zero_or_pos v with rfl | h'
  ·rw [Zy] at h;simp at h
  ·exact h'
 ·intro h;rcases Nat.eq_zero_or_pos (digits v).length with h' | h'
  ·have:=(Zn v 0).1 (by omega);rw [Zb0] at this;omega
  ·exact h'
theorem Wd.made {l : List Nat} (h : Lim w A n c l) (neg : Bool) (hs : val l < pw 4096) : Wd w (neg && decide (0 < (digits (val l)).length)) A (digits (val l)).length c (sg neg (val l)):=by
 refine ⟨?_,(Zn _ _).2 hs,?_⟩
 ·rw [Zh1];congr 1;simp [length_digits_pos]
 ·rw [Zw];exact h.canon.1
end
theorem mulstep {c x y z : Nat} (hc : c < 4294967296) (hx : x < 4294967296) (hy : y < 4294967296) (hz : z < 4294967296) :
    IntKind.u64.wrap ((c : Int) + IntKind.u64.wrap (IntKind.u64.wrap ((x : Int) * y) + z)) = ((c + x * y + z : Nat) : Int):=by
 have h : x * y <= 4294967295 * 4294967295:=Nat.mul_le_mul (by omega) (by omega)
 have e : (x : Int) * y = ((x * y : Nat) : Int):=by simp
 rw [e]
 generalize x * y = t at *
 simp only [IntKind.wrap_u64];omega
theorem Zln (t : Nat) : (t : Int) / 4294967296 = ((t / 4294967296 : Nat) : Int):=by omega
theorem Zlg (t : Nat) : (t : Int) % 4294967296 = ((t % 4294967296 : Nat) : Int):=by omega
theorem Zbk {W w1 : World} (hb : Below W.heap.size W w1) : (∀ b o,b < W.heap.size -> w1.cell? ⟨b,o,none⟩ = W.cell? ⟨b,o,none⟩) /\ (∀ b o,b < W.heap.size -> w1.frozen? ⟨b,o,none⟩ = W.frozen? ⟨b,o,none⟩):=
 ⟨fun b o h=>hb.cell (p:=⟨b,o,none⟩) h,fun b o h=>hb.frozen (p:=⟨b,o,none⟩) h⟩
theorem Zb {W w1 : World} {p : Addr} {v : Value} (hb : Below W.heap.size W w1) (h : W.cell? p = some v) : w1.cell? p = some v:=(hb.cell (Zr h)).trans h
theorem Zh {W w1 : World} {p : Addr} {v : Value} (hb : Below W.heap.size W w1) (h : W.cell? p = some v) (hf : W.frozen? p = false) : w1.frozen? p = false:=(hb.frozen (Zr h)).trans hf
attribute [local go_sem] Zg
theorem Zcm (A : Option Addr) (n c : Nat) (l : List Nat) (w : World) (h : Lim w A n c l) :
    Calls Tryz.prog 132 #[.slice A n c] w fun e w'=>e = .returned (.slice A (digits (val l)).length c) /\ w = w':=by
 have hn:=h.2.1;have hm:=h.2.2.1;unfold maxLen at hm;go_enter Tryz.func132,Tryz.ntmps132
 go_wp2
 go_loop [3] (fun v=>∃ k : Nat,k <= n /\ v = .int .i64 k /\ Hid (∀ j,k <= j -> l[j]?.getD 0 = 0)) (fun v=>(intOf v).toNat)
 case atStart=>exact ⟨n,Nat.le_refl _,rfl,fun j hj=>by rw [List.getElem?_eq_none (by rw [h.len];exact hj)];rfl⟩
 case round =>
  obtain ⟨k,hk,rfl,hz⟩:=hrel
  by_cases hk0 : 0 < k
  ·obtain ⟨b,o,rfl,hcell⟩:=h.at_ (k:=k - 1) (by omega)
   by_cases hx : l[k-1]?.getD 0 = 0
   ·have hb : (((l[k-1]?.getD 0 : Nat) : Int) == 0) = true:=by simp [hx]
    clear h;have hx:=Za hx
    go_wp2
    go_round
    case rel=>exact ⟨k - 1,by omega,by go_num,fun j hj=>by
        rcases Nat.lt_or_ge j k with h' | h'
        ·obtain rfl : j = k - 1:=by omega
         exact hx.out
        ·exact hz.out j h'⟩
    case measure=>simp [intOf];omega
   ·have hb : (((l[k-1]?.getD 0 : Nat) : Int) == 0) = false:=by simpa using hx
    have hd:=Zdo hz.out (Or.inr hx) h.lt;have hlk:=congrArg List.length hd;rw [List.length_take,h.len,Nat.min_eq_left hk] at hlk;have HL:=Za hlk;clear h hd hlk hx
    go_wp2
    go_ret;exact ⟨Zir HL.out.symm,rfl⟩
  ·obtain rfl : k = 0:=by omega
   have HL:=Za (congrArg List.length (Zdo hz.out (Or.inl rfl) h.lt));clear h
   go_wp2
   go_ret;exact ⟨Zir HL.out.symm,rfl⟩
theorem Ze8 {a b : Int} {s k : Nat} (h1 : a = s) (h2 : b = k) : Ending.returned (.tuple #[.int .u32 a,.int .u32 b]) = .returned (.tuple #[limb s,limb k]):=by rw [h1,h2]
def Sum32 (t : Nat) (w : World) (e : Ending) (w' : World) : Prop:=
 ∃ s k : Nat,e = .returned (.tuple #[limb s,limb k]) /\ s < 4294967296 /\ s + 4294967296 * k = t /\ w = w'
theorem Zen (x y c : Nat) (w : World) (hx : x < 4294967296) (hy : y < 4294967296) (hc : c <= 1) :
    Calls Tryz.prog 171 #[limb x,limb y,limb c] w (Sum32 (x + y + c) w):=by
 go_enter Tryz.func171,Tryz.ntmps171
 go_wp2
 go_ret2
 exact ⟨(x + y + c) % 4294967296,(x + y + c) / 4294967296,Ze8 (by omega) (by omega),by omega,by omega,rfl⟩
theorem Zdh (z : Nat) (h : z < 4294967296) : z.testBit 31 = decide (2147483648 <= z):=by
 rw [Nat.testBit_eq_decide_div_mod_eq]
 congr 1
 apply propext
 constructor <;> intro h' <;> omega
theorem div31 (z : Nat) (h : z < 4294967296) : z / 2147483648 = (z.testBit 31).toNat:=by
 rw [Zdh z h]
 by_cases h' : 2147483648 <= z
 ·simp [h'];omega
 ·simp [h'];omega
theorem Zmy (x y d c : Nat) (hx : x < 4294967296) (hy : y < 4294967296) (hc : c <= 1) (hd : d < 4294967296) (k : Nat) (he : d + y + c = x + 4294967296 * k) :
    ((((4294967295 ^^^ x) &&& y) ||| ((4294967295 ^^^ (x ^^^ y)) &&& d)) / 2147483648) = k:=by
 have hxy : x ^^^ y < 2 ^ 32:=Nat.xor_lt_two_pow (by omega) (by omega);have h1 : 4294967295 ^^^ x < 2 ^ 32:=Nat.xor_lt_two_pow (by omega) (by omega);have h2 : 4294967295 ^^^ (x ^^^ y) < 2 ^ 32:=Nat.xor_lt_two_pow (by omega) hxy;have h3 : (4294967295 ^^^ x) &&& y < 2 ^ 32:=Nat.and_lt_two_pow _ (by omega);have h4 : (4294967295 ^^^ (x ^^^ y)) &&& d < 2 ^ 32:=Nat.and_lt_two_pow _ (by omega);have h5:=Nat.or_lt_two_pow h3 h4;rw [div31 _ (by omega)];simp only [Nat.testBit_or,Nat.testBit_and,Nat.testBit_xor,Zdh x hx,Zdh y hy,Zdh d hd,Zdh 4294967295 (by omega)]
 by_cases a : 2147483648 <= x <;> by_cases b : 2147483648 <= y <;> by_cases e : 2147483648 <= d <;> simp [a,b,e] <;> omega
def Dif32 (x y c : Nat) (w : World) (e : Ending) (w' : World) : Prop:=
 ∃ d k : Nat,e = .returned (.tuple #[limb d,limb k]) /\ d < 4294967296 /\ k <= 1 /\ d + y + c = x + 4294967296 * k /\ w = w'
theorem Zes (x y c : Nat) (w : World) (hx : x < 4294967296) (hy : y < 4294967296) (hc : c <= 1) :
    Calls Tryz.prog 173 #[limb x,limb y,limb c] w (Dif32 x y c w):=by
 go_enter Tryz.func173,Tryz.ntmps173
 go_wp2
 go_ret2
 have e1 : ((x : Int) - y - c) % 4294967296 = (((x + 8589934592 - y - c) % 4294967296 : Nat) : Int):=by omega
 have hd : (x + 8589934592 - y - c) % 4294967296 < 4294967296:=by omega
 obtain ⟨k,hk⟩ : ∃ k,k <= 1 /\ (x + 8589934592 - y - c) % 4294967296 + y + c = x + 4294967296 * k:=⟨if x < y + c then 1 else 0,by split <;> omega⟩;refine ⟨(x + 8589934592 - y - c) % 4294967296,k,Ze8 e1 ?_,hd,hk.1,hk.2,rfl⟩;show bits .or .u32 _ _ / 2147483648 = _;rw [e1,show (IntKind.u32.max : Int) = ((4294967295 : Nat) : Int) from rfl];have hb:=Zmy x y _ c hx hy hc hd k hk.2
 generalize (x + 8589934592 - y - c) % 4294967296 = d at *
 have hxy : x ^^^ y < 2 ^ 32:=Nat.xor_lt_two_pow (by omega) (by omega);have h1 : 4294967295 ^^^ x < 2 ^ 32:=Nat.xor_lt_two_pow (by omega) (by omega);have h2 : 4294967295 ^^^ (x ^^^ y) < 2 ^ 32:=Nat.xor_lt_two_pow (by omega) hxy;have h3 : (4294967295 ^^^ x) &&& y < 2 ^ 32:=Nat.and_lt_two_pow _ (by omega);have h4 : (4294967295 ^^^ (x ^^^ y)) &&& d < 2 ^ 32:=Nat.and_lt_two_pow _ (by omega);rw [u32_xor_nat x y hx hy,u32_xor_nat _ x (by omega) hx,u32_xor_nat _ (x ^^^ y) (by omega) (by omega),u32_and_nat _ y (by omega) hy,u32_and_nat _ d (by omega) hd,u32_or_nat _ _ (by omega) (by omega)];omega
theorem Zbt : (Tryz.prog.info? 154).map (fun i=>(i.zero,i.size,i.bytes)) = some (some (.int .u32 0),1,4):=by kernel_rfl
def Plus1 (w : World) (a b : List Nat) (g n k carry : Nat) (wr : World) : Prop:=
 ∃ out,Blk wr g 154 (Zk out) /\ out.length = n + 1 /\ Lt32 out /\ (∀ j,k <= j -> out[j]?.getD 0 = 0) /\ val out + pw k * carry = val (a.take k) + val (b.take k) /\ Below w.heap.size w wr
theorem Plus1.start (w : World) (a b : List Nat) (n : Nat) : Plus1 w a b w.heap.size n 0 0 (w.alloc (.cells (Zk (List.replicate (n + 1) 0)) 154)):=
 ⟨List.replicate (n + 1) 0,Blk.new _ _ _,by simp,Lt32.replicate _,fun j _=>Zb8 _ _,by simp [Zch,val],(Below.refl _ _).alloc (Nat.le_refl _) _⟩
theorem Plus1.step {w wr : World} {a b out : List Nat} {n k carry s q : Nat} (hblk : Blk wr w.heap.size 154 (Zk out)) (hlen : out.length = n + 1) (hlt : Lt32 out) (hz : ∀ j,k <= j -> out[j]?.getD 0 = 0)
    (hI : val out + pw k * carry = val (a.take k) + val (b.take k)) (hB : Below w.heap.size w wr) (hk : k < n) (hs : s < 4294967296) (he : s + 4294967296 * q = a[k]?.getD 0 + b[k]?.getD 0 + carry) :
    Plus1 w a b w.heap.size n (k + 1) q (wr.setCell ⟨w.heap.size,k,none⟩ (limb s)):=
 ⟨out.set k s,by rw [<- Zao];exact hblk.set_ _ _,by rw [List.length_set];exact hlen,hlt.set _ hs,fun j hj=>by rw [getD_set_ne _ (by omega)];exact hz j (by omega),
  Zoh (by omega) (hz k (Nat.le_refl _)) hI he,hB.setCell (p:=⟨w.heap.size,k,none⟩) (Nat.le_refl _) _⟩
theorem Plus1.stop {w wr : World} {a b out : List Nat} {n carry : Nat} (hblk : Blk wr w.heap.size 154 (Zk out)) (hlen : out.length = n + 1) (hlt : Lt32 out) (hz : ∀ j,n <= j -> out[j]?.getD 0 = 0)
    (hI : val out + pw n * carry = val (a.take n) + val (b.take n)) (hB : Below w.heap.size w wr) (hc : carry <= 1) (ha : a.length <= n) (hb : b.length <= n) (hn : n < maxLen) :
    OutL w (fun l=>l.length = n + 1 /\ val l = val a + val b) (.returned (.slice (some ⟨w.heap.size,0,none⟩) (n + 1) (n + 1))) (wr.setCell ⟨w.heap.size,n,none⟩ (limb carry)):=by
 have hb2 : Blk (wr.setCell ⟨w.heap.size,n,none⟩ (limb carry)) w.heap.size 154 (Zk (out.set n carry)):=by rw [<- Zao];exact hblk.set_ _ _
 have hL:=Lim.of_blk hb2 (hlt.set _ (by omega)) (by rw [List.length_set];omega);rw [List.length_set,hlen] at hL;refine ⟨_,_,_,_,rfl,hL,⟨by rw [List.length_set];exact hlen,?_⟩,hB.setCell (p:=⟨w.heap.size,n,none⟩) (Nat.le_refl _) _⟩;have:=Zep (l:=out) (k:=n) (by omega) carry;rw [hz n (Nat.le_refl _)] at this;rw [Zu ha,Zu hb] at hI;omega
theorem Zkg (sw : Bool) (A B : Option Addr) (n c m d : Nat) (a b : List Nat) (w : World) (ha : Lim w A n c a) (hb : Lim w B m d b) (hsw : sw = true -> m < n) (hsw' : sw = false -> m <= n) (hn : n <= 1000000000) :
    Calls Tryz.prog 136 (if sw = true then #[.slice B m d,.slice A n c] else #[.slice A n c,.slice B m d]) w (OutL w fun l=>l.length = n + 1 /\ val l = val a + val b):=by
 obtain ⟨i0,hi,hz0,hz1,hz2⟩:=info_parts Zbt;have hmk:=Zel (P:=Tryz.prog) 25 154 Tryz.underlying25 hi hz0 hz1 hz2 ((n : Int) + 1) (n + 1) (by omega) (by omega);have hnc:=ha.2.1;have hmd:=hb.2.1;have hcm:=ha.2.2.1;have hdm:=hb.2.2.1
 have hnm : n < maxLen:=by unfold maxLen;omega
 unfold maxLen at hcm hdm
 have HS : Hid (∀ k carry wr,Plus1 w a b w.heap.size n k carry wr -> n <= k -> k <= n -> carry <= 1 -> OutL w (fun l=>l.length = n + 1 /\ val l = val a + val b) (.returned (.slice (some ⟨w.heap.size,0,none⟩) (n + 1) (n + 1))) (wr.setCell ⟨w.heap.size,n,none⟩ (limb carry))):=by
  rintro k carry wr ⟨out,h1,h2,h3,h4,h5,h6⟩ h7 h8 h9
  obtain rfl : k = n:=by omega
  exact Plus1.stop h1 h2 h3 h4 h5 h6 h9 (by rw [ha.len];omega) (by rw [hb.len];cases sw;exact hsw' rfl;exact Nat.le_of_lt (hsw rfl)) hnm
 have hmn : m <= n:=by cases sw;exact hsw' rfl;exact Nat.le_of_lt (hsw rfl)
 cases sw
 ·clear hsw hsw' hnm
  have hdd : decide (n < m) = false:=by simp;omega
  show Calls _ _ #[.slice A n c,.slice B m d] _ _;go_enter Tryz.func136,Tryz.ntmps136
  go_wp2
  go_loopw [6,23] (fun cv iv wr=>∃ k carry : Nat,k <= n /\ carry <= 1 /\ cv = limb carry /\ iv = .int .i64 k /\ Plus1 w a b w.heap.size n k carry wr) (fun _ iv _=>n - (intOf iv).toNat)
  case atStart=>exact ⟨0,0,Nat.zero_le _,Nat.zero_le _,rfl,rfl,Plus1.start w a b n⟩
  case round =>
   obtain ⟨k,carry,hk,hcy,rfl,rfl,hP⟩:=hrel
   by_cases hlt1 : k < n
   ·have hP':=hP
    obtain ⟨out,hblk,hlen,hlt,hz,hI,hB⟩:=hP';have HP:=Za hP;clear hP;have hz:=Za hz;have hI:=Za hI;have hlen:=Za hlen;have hsz:=hblk.lt;obtain ⟨ba,oa,rfl,hca⟩:=(ha.below hB).at_ hlt1;have hxa:=ha.lt.get k;have hcg:=hblk.cell k;rw [Z4 out k (by rw [hlen.out];omega),hz.out k (Nat.le_refl _)] at hcg;have hfg:=hblk.frozen k
    by_cases hm1 : k < m
    ·obtain ⟨bb,ob,rfl,hcb⟩:=(hb.below hB).at_ hm1
     have hxb:=hb.lt.get k;go_wp2_with (go_at_call 171;refine (Zen _ _ _ _ hxa hxb hcy).mono ?_;rintro e w' ⟨s,q,rfl,hs,he,rfl⟩;have hE:=Za he;clear he)
     go_roundw
     case rel=>exact ⟨k + 1,q,by omega,by have:=hE.out;omega,rfl,by go_num,Plus1.step hblk hlen.out hlt hz.out hI.out hB hlt1 hs hE.out⟩
     case measure=>simp [intOf];omega
    ·have hb0:=Za (getD_none (l:=b) (i:=k) (by rw [hb.len];omega))
     go_wp2_with (go_at_call 171;refine (Zen _ 0 _ _ hxa (by omega) hcy).mono ?_;rintro e w' ⟨s,q,rfl,hs,he,rfl⟩;have hE:=Za he;clear he)
     go_roundw
     case rel=>exact ⟨k + 1,q,by omega,by have:=hE.out;omega,rfl,by go_num,Plus1.step hblk hlen.out hlt hz.out hI.out hB hlt1 hs (by rw [hb0.out];exact hE.out)⟩
     case measure=>simp [intOf];omega
   ·have HF:=Za (HS.out k carry wr hP (by omega) hk hcy)
    obtain ⟨out,hblk,hlen,hlt,hz,hI,hB⟩:=hP;have hcg:=hblk.cell n;rw [Z4 out n (by omega),hz n (by omega)] at hcg;have hfg:=hblk.frozen n;have hsz:=hblk.lt;clear hblk hz hI hlen
    go_wp2
    go_ret;exact HF.out
 ·have hlt : m < n:=hsw rfl
  clear hsw hsw' hnm
  have hdd : decide (m < n) = true:=by simp;omega
  show Calls _ _ #[.slice B m d,.slice A n c] _ _;go_enter Tryz.func136,Tryz.ntmps136
  go_wp2
  go_loopw [6,23] (fun cv iv wr=>∃ k carry : Nat,k <= n /\ carry <= 1 /\ cv = limb carry /\ iv = .int .i64 k /\ Plus1 w a b w.heap.size n k carry wr) (fun _ iv _=>n - (intOf iv).toNat)
  case atStart=>exact ⟨0,0,Nat.zero_le _,Nat.zero_le _,rfl,rfl,Plus1.start w a b n⟩
  case round =>
   obtain ⟨k,carry,hk,hcy,rfl,rfl,hP⟩:=hrel
   by_cases hlt1 : k < n
   ·have hP':=hP
    obtain ⟨out,hblk,hlen,hlt,hz,hI,hB⟩:=hP';have HP:=Za hP;clear hP;have hz:=Za hz;have hI:=Za hI;have hlen:=Za hlen;have hsz:=hblk.lt;obtain ⟨ba,oa,rfl,hca⟩:=(ha.below hB).at_ hlt1;have hxa:=ha.lt.get k;have hcg:=hblk.cell k;rw [Z4 out k (by rw [hlen.out];omega),hz.out k (Nat.le_refl _)] at hcg;have hfg:=hblk.frozen k
    by_cases hm1 : k < m
    ·obtain ⟨bb,ob,rfl,hcb⟩:=(hb.below hB).at_ hm1
     have hxb:=hb.lt.get k;go_wp2_with (go_at_call 171;refine (Zen _ _ _ _ hxa hxb hcy).mono ?_;rintro e w' ⟨s,q,rfl,hs,he,rfl⟩;have hE:=Za he;clear he)
     go_roundw
     case rel=>exact ⟨k + 1,q,by omega,by have:=hE.out;omega,rfl,by go_num,Plus1.step hblk hlen.out hlt hz.out hI.out hB hlt1 hs hE.out⟩
     case measure=>simp [intOf];omega
    ·have hb0:=Za (getD_none (l:=b) (i:=k) (by rw [hb.len];omega))
     go_wp2_with (go_at_call 171;refine (Zen _ 0 _ _ hxa (by omega) hcy).mono ?_;rintro e w' ⟨s,q,rfl,hs,he,rfl⟩;have hE:=Za he;clear he)
     go_roundw
     case rel=>exact ⟨k + 1,q,by omega,by have:=hE.out;omega,rfl,by go_num,Plus1.step hblk hlen.out hlt hz.out hI.out hB hlt1 hs (by rw [hb0.out];exact hE.out)⟩
     case measure=>simp [intOf];omega
   ·have HF:=Za (HS.out k carry wr hP (by omega) hk hcy)
    obtain ⟨out,hblk,hlen,hlt,hz,hI,hB⟩:=hP;have hcg:=hblk.cell n;rw [Z4 out n (by omega),hz n (by omega)] at hcg;have hfg:=hblk.frozen n;have hsz:=hblk.lt;clear hblk hz hI hlen
    go_wp2
    go_ret;exact HF.out
theorem Zho (A B : Option Addr) (n c m d : Nat) (a b : List Nat) (w : World) (ha : Lim w A n c a) (hb : Lim w B m d b) (hn : n <= 1000000000) (hm : m <= 1000000000) :
    Calls Tryz.prog 136 #[.slice A n c,.slice B m d] w (OutL w fun l=>l.length = max n m + 1 /\ val l = val a + val b):=by
 rcases Nat.lt_or_ge n m with h | h
 ·refine (Zkg true B A m d n c b a w hb ha (fun _=>h) (fun e=>by cases e) hm).mono ?_
  rintro e w' ⟨A',n',c',l,he,hL,hP,hB⟩;exact ⟨A',n',c',l,he,hL,⟨by rw [hP.1,Nat.max_eq_right (Nat.le_of_lt h)],by rw [hP.2,Nat.add_comm]⟩,hB⟩
 ·refine (Zkg false A B n c m d a b w ha hb (fun e=>by cases e) (fun _=>h) hn).mono ?_
  rintro e w' ⟨A',n',c',l,he,hL,hP,hB⟩;exact ⟨A',n',c',l,he,hL,⟨by rw [hP.1,Nat.max_eq_left h],hP.2⟩,hB⟩
def Minus1 (w : World) (a b : List Nat) (g n k borrow : Nat) (wr : World) : Prop:=
 ∃ out,Blk wr g 154 (Zk out) /\ out.length = n /\ Lt32 out /\ (∀ j,k <= j -> out[j]?.getD 0 = 0) /\ val out + val (b.take k) = val (a.take k) + pw k * borrow /\ Below w.heap.size w wr
theorem Minus1.start (w : World) (a b : List Nat) (n : Nat) : Minus1 w a b w.heap.size n 0 0 (w.alloc (.cells (Zk (List.replicate n 0)) 154)):=
 ⟨List.replicate n 0,Blk.new _ _ _,by simp,Lt32.replicate _,fun j _=>Zb8 _ _,by simp [Zch,val],(Below.refl _ _).alloc (Nat.le_refl _) _⟩
theorem Minus1.step {w wr : World} {a b out : List Nat} {n k borrow s q : Nat} (hblk : Blk wr w.heap.size 154 (Zk out)) (hlen : out.length = n) (hlt : Lt32 out) (hz : ∀ j,k <= j -> out[j]?.getD 0 = 0)
    (hI : val out + val (b.take k) = val (a.take k) + pw k * borrow) (hB : Below w.heap.size w wr) (hk : k < n) (hs : s < 4294967296) (he : s + b[k]?.getD 0 + borrow = a[k]?.getD 0 + 4294967296 * q) :
    Minus1 w a b w.heap.size n (k + 1) q (wr.setCell ⟨w.heap.size,k,none⟩ (limb s)):=
 ⟨out.set k s,by rw [<- Zao];exact hblk.set_ _ _,by rw [List.length_set];exact hlen,hlt.set _ hs,fun j hj=>by rw [getD_set_ne _ (by omega)];exact hz j (by omega),
  Zmx (by omega) (hz k (Nat.le_refl _)) hI he,hB.setCell (p:=⟨w.heap.size,k,none⟩) (Nat.le_refl _) _⟩
theorem Minus1.stop {w wr : World} {a b : List Nat} {n borrow : Nat} (h : Minus1 w a b w.heap.size n n borrow wr) (ha : a.length <= n) (hb : b.length <= n) (hab : val b <= val a) (hn : n <= maxLen) :
    OutL w (fun l=>l.length = n /\ val l + val b = val a) (.returned (.slice (some ⟨w.heap.size,0,none⟩) n n)) wr:=by
 obtain ⟨out,hblk,hlen,hlt,-,hI,hB⟩:=h;have hL:=Lim.of_blk hblk hlt (by omega);rw [hlen] at hL;refine ⟨_,_,_,_,rfl,hL,⟨hlen,?_⟩,hB⟩;rw [Zu ha,Zu hb] at hI;have:=Zdc hlt;rw [hlen] at this
 rcases Nat.eq_zero_or_pos borrow with h0 | h0
 ·subst h0;omega
 ·have:=Nat.mul_le_mul_left (pw n) h0;omega
theorem Zf8 (A B : Option Addr) (n c m d : Nat) (a b : List Nat) (w : World) (ha : Lim w A n c a) (hb : Lim w B m d b) (hmn : m <= n) (hab : val b <= val a) (hn : n <= 1000000000) :
    Calls Tryz.prog 162 #[.slice A n c,.slice B m d] w (OutL w fun l=>l.length = n /\ val l + val b = val a):=by
 obtain ⟨i0,hi,hz0,hz1,hz2⟩:=info_parts Zbt;have hmk:=Zel (P:=Tryz.prog) 25 154 Tryz.underlying25 hi hz0 hz1 hz2 (n : Int) n rfl (by omega);have hnc:=ha.2.1;have hmd:=hb.2.1;have hcm:=ha.2.2.1;have hdm:=hb.2.2.1
 have hnm : n <= maxLen:=by unfold maxLen;omega
 unfold maxLen at hcm hdm
 have HS : Hid (∀ borrow wr,Minus1 w a b w.heap.size n n borrow wr -> OutL w (fun l=>l.length = n /\ val l + val b = val a) (.returned (.slice (some ⟨w.heap.size,0,none⟩) n n)) wr):=
  fun borrow wr h=>Minus1.stop h (by rw [ha.len];omega) (by rw [hb.len];omega) hab hnm
 clear hnm hab;go_enter Tryz.func162,Tryz.ntmps162
 go_wp2
 go_loopw [6,15] (fun cv iv wr=>∃ k borrow : Nat,k <= n /\ borrow <= 1 /\ cv = limb borrow /\ iv = .int .i64 k /\ Minus1 w a b w.heap.size n k borrow wr) (fun _ iv _=>n - (intOf iv).toNat)
 case atStart=>exact ⟨0,0,Nat.zero_le _,Nat.zero_le _,rfl,rfl,Minus1.start w a b n⟩
 case round =>
  obtain ⟨k,borrow,hk,hcy,rfl,rfl,hP⟩:=hrel
  by_cases hlt1 : k < n
  ·obtain ⟨out,hblk,hlen,hlt,hz,hI,hB⟩:=hP
   have hz:=Za hz;have hI:=Za hI;have hlen:=Za hlen;have hsz:=hblk.lt;obtain ⟨ba,oa,rfl,hca⟩:=(ha.below hB).at_ hlt1;have hxa:=ha.lt.get k;have hcg:=hblk.cell k;rw [Z4 out k (by rw [hlen.out];omega),hz.out k (Nat.le_refl _)] at hcg;have hfg:=hblk.frozen k
   by_cases hm1 : k < m
   ·obtain ⟨bb,ob,rfl,hcb⟩:=(hb.below hB).at_ hm1
    have hxb:=hb.lt.get k;go_wp2_with (go_at_call 173;refine (Zes _ _ _ _ hxa hxb hcy).mono ?_;rintro e w' ⟨s,q,rfl,hs,hq,he,rfl⟩;have hE:=Za he;clear he)
    go_roundw
    case rel=>exact ⟨k + 1,q,by omega,hq,rfl,by go_num,Minus1.step hblk hlen.out hlt hz.out hI.out hB hlt1 hs hE.out⟩
    case measure=>simp [intOf];omega
   ·have hb0:=Za (getD_none (l:=b) (i:=k) (by rw [hb.len];omega))
    go_wp2_with (go_at_call 173;refine (Zes _ 0 _ _ hxa (by omega) hcy).mono ?_;rintro e w' ⟨s,q,rfl,hs,hq,he,rfl⟩;have hE:=Za he;clear he)
    go_roundw
    case rel=>exact ⟨k + 1,q,by omega,hq,rfl,by go_num,Minus1.step hblk hlen.out hlt hz.out hI.out hB hlt1 hs (by rw [hb0.out];exact hE.out)⟩
    case measure=>simp [intOf];omega
  ·obtain rfl : k = n:=by omega
   have HF:=Za (HS.out borrow wr hP);clear hP
   go_wp2
   go_ret;exact HF.out
theorem Zq8 {w w' : World} {A : Option Addr} {n c : Nat} {l : List Nat} {neg : Bool} (h : Lim w A n c l) (hb : Below w.heap.size w w') (hs : val l < pw 4096) :
    ResW w (sg neg (val l)) (.returned (.tuple #[.agg #[.bool (neg && decide (0 < (digits (val l)).length)),.slice A (digits (val l)).length c],.int .i64 0])) w':=
 ⟨hb,_,_,_,_,_,rfl,.inl ⟨by rw [Zw];exact hs,rfl,(Wd.made h neg hs).below hb⟩⟩
theorem Zas (neg : Bool) (A : Option Addr) (n c : Nat) (l : List Nat) (w : World) (h : Lim w A n c l) :
    Calls Tryz.prog 138 #[.bool neg,.slice A n c] w (ResW w (sg neg (val l))):=by
 have hk:=h.canon.2;have hnc:=h.2.1;have hcm:=h.2.2.1;unfold maxLen at hcm
 have HO : Hid (∀ w',Below w.heap.size w w' -> val l < pw 4096 -> ResW w (sg neg (val l)) (.returned (.tuple #[.agg #[.bool (neg && decide (0 < (digits (val l)).length)),.slice A (digits (val l)).length c],.int .i64 0])) w'):=
  fun w' hb hs=>Zq8 h hb hs
 have HB : Hid (∀ w',Below w.heap.size w w' -> pw 4096 <= val l -> ResW w (sg neg (val l)) (.returned (.tuple #[.agg #[.bool false,.slice none 0 0],.int .i64 16])) w'):=
  fun w' hb hs=>⟨hb,_,_,_,_,_,rfl,.inr ⟨by rw [Zw];exact hs,rfl,rfl,rfl,rfl,rfl⟩⟩
 have HI:=Za (Zn (val l) 4096);have HT:=Za (Zcm A n c l)
 generalize hm : (digits (val l)).length = m at *
 clear hm
 by_cases h1 : m <= 4096
 ·by_cases h2 : 0 < m
  ·have e : (neg && decide (0 < m)) = neg:=by simp [h2]
   simp only [e] at HO;clear e
   have hd : decide (0 < m) = true:=by simpa using h2
   cases neg
   all_goals
    go_enter Tryz.func138,Tryz.ntmps138;go_wp2_with (go_at_call 132;refine (HT.out _ (h.alloc _)).mono ?_;rintro e w' ⟨rfl,rfl⟩);go_returns;exact HO.out _ ((Below.refl _ _).alloc (Nat.le_refl _) _) (HI.out.1 h1)
  ·obtain rfl : m = 0:=by omega
   have e : (neg && decide (0 < 0)) = false:=by simp
   simp only [e] at HO;clear e
   cases neg
   all_goals
    go_enter Tryz.func138,Tryz.ntmps138;go_wp2_with (go_at_call 132;refine (HT.out _ (h.alloc _)).mono ?_;rintro e w' ⟨rfl,rfl⟩);go_returns;exact HO.out _ ((Below.refl _ _).alloc (Nat.le_refl _) _) (HI.out.1 h1)
 ·have hp : pw 4096 <= val l:=by
    rcases Nat.lt_or_ge (val l) (pw 4096) with h' | h'
    ·exact absurd (HI.out.2 h') h1
    ·exact h'
  have HP:=Za hp;clear hp;go_enter Tryz.func138,Tryz.ntmps138;go_wp2_with (go_at_call 132;refine (HT.out _ (h.alloc _)).mono ?_;rintro e w' ⟨rfl,rfl⟩);go_returns;exact HB.out _ ((Below.refl _ _).alloc (Nat.le_refl _) _) HP.out
def Times1 (w : World) (a b : List Nat) (g i k carry : Nat) (wr : World) : Prop:=
 ∃ out,Blk wr g 154 (Zk out) /\ out.length = a.length + b.length /\ Lt32 out /\ (∀ j,i + b.length <= j -> out[j]?.getD 0 = 0) /\
  val out + pw (i + k) * carry = val (a.take i) * val b + pw i * (a[i]?.getD 0 * val (b.take k)) /\ carry < 4294967296 /\ Below w.heap.size w wr
theorem Times1.start (w : World) (a b : List Nat) : Times1 w a b w.heap.size 0 0 0 (w.alloc (.cells (Zk (List.replicate (a.length + b.length) 0)) 154)):=
 ⟨List.replicate _ 0,Blk.new _ _ _,by simp,Lt32.replicate _,fun j _=>Zb8 _ _,by simp [Zch,val],by omega,(Below.refl _ _).alloc (Nat.le_refl _) _⟩
theorem Times1.step {w wr : World} {a b out : List Nat} {i k carry s q : Nat} (hblk : Blk wr w.heap.size 154 (Zk out)) (hlen : out.length = a.length + b.length) (hlt : Lt32 out) (hz : ∀ j,i + b.length <= j -> out[j]?.getD 0 = 0)
    (hI : val out + pw (i + k) * carry = val (a.take i) * val b + pw i * (a[i]?.getD 0 * val (b.take k))) (hc : carry < 4294967296) (hB : Below w.heap.size w wr) (hi : i < a.length) (hk : k < b.length)
    (ha : Lt32 a) (hb : Lt32 b) (hs : s < 4294967296) (he : s + 4294967296 * q = carry + a[i]?.getD 0 * b[k]?.getD 0 + out[i + k]?.getD 0) :
    Times1 w a b w.heap.size i (k + 1) q (wr.setCell ⟨w.heap.size,i + k,none⟩ (limb s)):=
 ⟨out.set (i + k) s,by rw [<- Zao];exact hblk.set_ _ _,by rw [List.length_set];exact hlen,hlt.set _ hs,fun j hj=>by rw [getD_set_ne _ (by omega)];exact hz j (by omega),
  Zmr (by omega) hI he,Zqq (ha.get i) (hb.get k) (hlt.get _) hc he,hB.setCell (p:=⟨w.heap.size,i + k,none⟩) (Nat.le_refl _) _⟩
theorem Times1.row {w wr : World} {a b : List Nat} {i carry : Nat} (h : Times1 w a b w.heap.size i b.length carry wr) (hi : i < a.length) :
    Times1 w a b w.heap.size (i + 1) 0 0 (wr.setCell ⟨w.heap.size,i + b.length,none⟩ (limb carry)):=by
 obtain ⟨out,hblk,hlen,hlt,hz,hI,hc,hB⟩:=h;rw [List.take_length] at hI;refine ⟨out.set (i + b.length) carry,by rw [<- Zao];exact hblk.set_ _ _,by rw [List.length_set];exact hlen,hlt.set _ hc,fun j hj=>by rw [getD_set_ne _ (by omega)];exact hz j (by omega),?_,by omega,hB.setCell (p:=⟨w.heap.size,i + b.length,none⟩) (Nat.le_refl _) _⟩;have:=Zom (by omega) (hz _ (Nat.le_refl _)) hI
 simp [val,this]
theorem Times1.stop {w wr : World} {a b : List Nat} {carry : Nat} (h : Times1 w a b w.heap.size a.length 0 carry wr) (hn : a.length + b.length <= maxLen) (h0 : carry = 0) :
    OutL w (fun l=>l.length = a.length + b.length /\ val l = val a * val b) (.returned (.slice (some ⟨w.heap.size,0,none⟩) (a.length + b.length) (a.length + b.length))) wr:=by
 obtain ⟨out,hblk,hlen,hlt,-,hI,-,hB⟩:=h;have hL:=Lim.of_blk hblk hlt (by omega);rw [hlen] at hL;refine ⟨_,_,_,_,rfl,hL,⟨hlen,?_⟩,hB⟩;subst h0
 simpa [val] using hI
theorem Zo9 (A B : Option Addr) (n c m d : Nat) (a b : List Nat) (w : World) (ha : Lim w A n c a) (hb : Lim w B m d b) (hn : n <= 1000000000) (hm : m <= 1000000000) :
    Calls Tryz.prog 161 #[.slice A n c,.slice B m d] w (OutL w fun l=>l.length = n + m /\ val l = val a * val b):=by
 obtain ⟨i0,hi,hz0,hz1,hz2⟩:=info_parts Zbt;have hmk:=Zel (P:=Tryz.prog) 25 154 Tryz.underlying25 hi hz0 hz1 hz2 ((n : Int) + m) (n + m) (by omega) (by omega);have hnc:=ha.2.1;have hmd:=hb.2.1;have hcm:=ha.2.2.1;have hdm:=hb.2.2.1;unfold maxLen at hcm hdm;have hal:=Za ha.len;have hbl:=Za hb.len;go_enter Tryz.func161,Tryz.ntmps161
 go_wp2
 go_loopw [19] (fun iv wr=>∃ i : Nat,i <= n /\ iv = .int .i64 i /\ Times1 w a b w.heap.size i 0 0 wr) (fun iv _=>n - (intOf iv).toNat)
 case atStart=>exact ⟨0,Nat.zero_le _,rfl,by have:=Times1.start w a b;rw [ha.len,hb.len] at this;exact this⟩
 case round =>
  obtain ⟨i,hi1,rfl,hP⟩:=hrel
  by_cases hlt1 : i < n
  ·have hB0 : Below w.heap.size w wr:=by obtain ⟨out,h1,h2,h3,h4,h5,h6,h7⟩:=hP;exact h7
   obtain ⟨ba,oa,rfl,hca⟩:=(ha.below hB0).at_ hlt1;have hxa:=ha.lt.get i;obtain ⟨wo,rfl⟩ : ∃ wo : World,wo = wr:=⟨_,rfl⟩
   go_wp2
   go_loopw [8,26] (fun cv kv wr=>∃ k carry : Nat,k <= m /\ cv = .int .u64 carry /\ kv = .int .i64 k /\ Times1 w a b w.heap.size i k carry wr) (fun _ kv _=>m - (intOf kv).toNat)
   case atStart=>exact ⟨0,0,Nat.zero_le _,rfl,rfl,hP⟩
   case round =>
    obtain ⟨k,carry,hk,rfl,rfl,hP⟩:=hrel
    by_cases hlt2 : k < m
    ·obtain ⟨out,hblk,hlen,hlt,hz,hI,hcy,hB⟩:=hP
     have hz:=Za hz;have hI:=Za hI;have hlen:=Za hlen;have hsz:=hblk.lt;obtain ⟨bb,ob,rfl,hcb⟩:=(hb.below hB).at_ hlt2;have hxb:=hb.lt.get k;have hcg:=hblk.cell (i + k);rw [Z4 out (i + k) (by rw [hlen.out,hal.out,hbl.out];omega)] at hcg;have hxo:=hlt.get (i + k);have hfg:=hblk.frozen (i + k)
     go_wp2
     go_roundw
     case rel =>
      rw [mulstep hcy hxa hxb hxo,Zln,Zlg];exact ⟨k + 1,_,by omega,rfl,by go_num,Times1.step hblk hlen.out hlt hz.out hI.out hcy hB (by rw [hal.out];exact hlt1) (by rw [hbl.out];exact hlt2) ha.lt hb.lt (Nat.mod_lt _ (by decide)) (by omega)⟩
     case measure=>simp [intOf];omega
    ·obtain rfl : k = m:=by omega
     have HR : Hid (Times1 w a b w.heap.size (i + 1) 0 0 (wr.setCell ⟨w.heap.size,i + k,none⟩ (limb carry))):=by
      rw [<- hbl.out] at hP ⊢;exact hP.row (by rw [hal.out];exact hlt1)
     obtain ⟨out,hblk,hlen,hlt,hz,hI,hcy,hB⟩:=hP;have hsz:=hblk.lt;have hcg:=hblk.cell (i + k);rw [Z4 out (i + k) (by rw [hlen,hal.out,hbl.out];omega)] at hcg;have hfg:=hblk.frozen (i + k);clear hz hI hlen hblk
     go_wp2
     go_roundw
     case rel=>exact ⟨i + 1,by omega,by go_num,HR.out⟩
     case measure=>simp [intOf];omega
  ·obtain rfl : i = n:=by omega
   have HF : Hid (OutL w (fun l=>l.length = i + m /\ val l = val a * val b) (.returned (.slice (some ⟨w.heap.size,0,none⟩) (i + m) (i + m))) wr):=by
    rw [<- hbl.out];have h1:=hal.out;subst h1;exact Times1.stop hP (by rw [hbl.out];unfold maxLen;omega) rfl
   clear hP
   go_wp2
   go_ret;exact HF.out
end Go.Proofs.YtpehacgjclkhmaaGreat
