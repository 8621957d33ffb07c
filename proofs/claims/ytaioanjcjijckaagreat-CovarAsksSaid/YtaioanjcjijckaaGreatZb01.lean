/- Limbs of 32 bits, the lowest one first: what a list of -/
import Derived.WalkKit
import Derived.WalkSpells
import Derived.WalkLawsBesides
import Derived.Lib.Hide
import Derived.Laws.OwnMore
import Derived.Deep.AppendLies
import Derived.Deep.Draws
import Derived.Laws.Rows
import Derived.Deep.OwnRows
import Derived.OwnWalk
import Derived.Handy
import Derived.IntWalk
import Derived.Maps.AppendAt
import Derived.RegionTactic
import Derived.Test.YtaioanjcjijckaaGreatRows
import Derived.BigQuiet
import Derived.Deep.QuietTactic
import Derived.Laws.IdiomCopy
import Derived.RangeFuncBox
import Derived.RangeFuncLeaves
import Derived.RangeFuncNested
import Derived.RangeFuncCalls
import Derived.Shelf.Abstract
import Derived.OwnWalkIn
import Derived.TacticsInMore
import Derived.LoopNIn
import Derived.LoopIn
import Derived.Deep.RegionHeld3
import Derived.TacticsIn
set_option maxRecDepth 100000
set_option maxHeartbeats 2000000
set_option linter.unusedSimpArgs false
set_option linter.unusedVariables false
namespace Go.Proofs.YtaioanjcjijckaaGreat
def val:List Nat->Nat
 | []=>0
 | x :: l=>x+4294967296 * val l
def Lt32 (l:List Nat):Prop:=∀ x ∈ l,x < 4294967296
def digits (n:Nat):List Nat:=if h:n=0 then [] else n % 4294967296 :: digits (n / 4294967296)
termination_by n
decreasing_by omega
def canon:List Nat->List Nat
 | []=>[]
 | x :: l=>match canon l with
  | []=>if x=0 then [] else [x]
  | y :: m=>x :: y :: m
def pw (k:Nat):Nat:=4294967296 ^ k
theorem Zcw:pw 0=1:=rfl
theorem Zaq (k:Nat):pw (k+1)=4294967296 * pw k:=by unfold pw;rw [Nat.pow_succ,Nat.mul_comm]
theorem Zci (a b:Nat):pw (a+b)=pw a * pw b:=by unfold pw;rw [Nat.pow_add]
theorem Zb2 (k:Nat):0 < pw k:=Nat.pow_pos (by decide)
theorem Zdh {a b:Nat} (h:a <= b):pw a <= pw b:=Nat.pow_le_pow_right (by decide) h
theorem Zc4 {a b:Nat} (h:a < b):pw a < pw b:=Nat.pow_lt_pow_right (by decide) h
theorem Lt32.nil:Lt32 []:=fun _ h=>by cases h
theorem Lt32.cons {x:Nat} {l:List Nat} (h:x < 4294967296) (hl:Lt32 l):Lt32 (x :: l):=fun y hy=>by
 rcases List.mem_cons.1 hy with rfl | hy
 ·exact h
 ·exact hl y hy
theorem Lt32.head {x:Nat} {l:List Nat} (h:Lt32 (x :: l)):x < 4294967296:=h x (by simp)
theorem Lt32.tail {x:Nat} {l:List Nat} (h:Lt32 (x :: l)):Lt32 l:=fun y hy=>h y (by simp [hy])
theorem Lt32.get {l:List Nat} (h:Lt32 l) (k:Nat):l[k]?.getD 0 < 4294967296:=by
 rcases Nat.lt_or_ge k l.length with hk | hk
 ·rw [List.getElem?_eq_getElem hk];exact h _ (List.getElem_mem hk)
 ·rw [List.getElem?_eq_none hk];decide
theorem Lt32.take {l:List Nat} (h:Lt32 l) (k:Nat):Lt32 (l.take k):=fun x hx=>h x (List.mem_of_mem_take hx)
theorem Lt32.drop {l:List Nat} (h:Lt32 l) (k:Nat):Lt32 (l.drop k):=fun x hx=>h x (List.mem_of_mem_drop hx)
theorem Lt32.append {l m:List Nat} (h:Lt32 l) (h':Lt32 m):Lt32 (l ++ m):=fun x hx=>by
 rcases List.mem_append.1 hx with hx | hx
 ·exact h x hx
 ·exact h' x hx
theorem Lt32.set {l:List Nat} (h:Lt32 l) (k:Nat) {v:Nat} (hv:v < 4294967296):Lt32 (l.set k v):=fun x hx=>by
 rcases List.mem_or_eq_of_mem_set hx with hx | rfl
 ·exact h x hx
 ·exact hv
theorem Lt32.replicate (n:Nat):Lt32 (List.replicate n 0):=fun x hx=>by
 rw [(List.mem_replicate.1 hx).2];decide
theorem Zfk (a b:List Nat):val (a ++ b)=val a+pw a.length * val b:=by
 induction a with
 | nil=>simp [val,Zcw]
 | cons x l ih=>simp only [List.cons_append,val,ih,List.length_cons,Zaq];grind
theorem Zen {l:List Nat} (h:Lt32 l):val l < pw l.length:=by
 induction l with
 | nil=>simp [val,Zcw]
 | cons x l ih=>have:=ih h.tail;have:=h.head;simp only [val,List.length_cons,Zaq];omega
theorem Zdt (n:Nat):val (List.replicate n 0)=0:=by
 induction n with
 | zero=>rfl
 | succ n ih=>simp [List.replicate_succ,val,ih]
theorem Zgf {l:List Nat} {k:Nat} (hk:k < l.length) (v:Nat):val (l.set k v)+pw k * (l[k]?.getD 0)=val l+pw k * v:=by
 induction l generalizing k with
 | nil=>simp at hk
 | cons x l ih =>
  cases k with
  | zero=>simp [val,Zcw];omega
  | succ k=>have:=ih (k:=k) (by simpa using hk);simp only [List.set_cons_succ,val,List.getElem?_cons_succ,Zaq];grind
theorem Z7 (l:List Nat) (k:Nat):val (l.take (k+1))=val (l.take k)+pw k * (l[k]?.getD 0):=by
 induction l generalizing k with
 | nil=>simp [val]
 | cons x l ih =>
  cases k with
  | zero=>simp [val,Zcw]
  | succ k=>have:=ih k;simp only [List.take_succ_cons,val,List.getElem?_cons_succ,Zaq];grind
theorem Zab {l:List Nat} {k:Nat} (h:l.length <= k):val (l.take k)=val l:=by rw [List.take_of_length_le h]
theorem Zac (l:List Nat) (k:Nat) (h:k <= l.length):val l=val (l.take k)+pw k * val (l.drop k):=by
 have:=Zfk (l.take k) (l.drop k);rw [List.take_append_drop,List.length_take,Nat.min_eq_left h] at this;exact this
theorem Zah:digits 0=[]:=by unfold digits;simp
theorem Zc6 {n:Nat} (h:n ≠ 0):digits n=n % 4294967296 :: digits (n / 4294967296):=by rw [digits];simp [h]
theorem Zh (n:Nat):val (digits n)=n:=by
 induction n using Nat.strongRecOn with
 | _ n ih =>
  by_cases h:n=0
  ·subst h;rw [Zah];rfl
  ·rw [Zc6 h,val,ih _ (by omega)];omega
theorem Zf4 (n:Nat):Lt32 (digits n):=by
 induction n using Nat.strongRecOn with
 | _ n ih =>
  by_cases h:n=0
  ·subst h;rw [Zah];exact Lt32.nil
  ·rw [Zc6 h];exact (ih _ (by omega)).cons (by omega)
theorem digits_eq_nil {n:Nat}:digits n=[] ↔ n=0:=by
 constructor
 ·intro h;have:=Zh n;rw [h] at this;exact this.symm
 ·rintro rfl;exact Zah
theorem Zfx (n:Nat):(digits n).getLast? ≠ some 0:=by
 induction n using Nat.strongRecOn with
 | _ n ih =>
  by_cases h:n=0
  ·subst h;rw [Zah];simp
  ·rw [Zc6 h]
   have:=ih (n / 4294967296) (by omega)
   by_cases h':n / 4294967296=0
   ·rw [h',Zah];simp;omega
   ·obtain ⟨y,m,hm⟩:=List.exists_cons_of_ne_nil (fun e=>h' (digits_eq_nil.1 e))
    rw [hm] at this ⊢
    simpa using this
theorem Zo (n k:Nat):(digits n).length <= k ↔ n < pw k:=by
 induction k generalizing n with
 | zero =>
  rw [Zcw]
  constructor
  ·intro h;have:=digits_eq_nil.1 (List.eq_nil_of_length_eq_zero (Nat.le_zero.1 h));omega
  ·intro h;have:n=0:=by omega
   subst this;rw [Zah];simp
 | succ k ih =>
  by_cases h:n=0
  ·subst h;rw [Zah];simp [Zb2]
  ·rw [Zc6 h,List.length_cons,Nat.succ_le_succ_iff,ih,Zaq,Nat.div_lt_iff_lt_mul (by decide),Nat.mul_comm]
theorem Zcc (n:Nat):n < pw (digits n).length:=(Zo n _).1 (Nat.le_refl _)
theorem Zfu {n k:Nat} (h:k < (digits n).length):pw k <= n:=by
 rcases Nat.lt_or_ge n (pw k) with h' | h'
 ·have:=(Zo n k).2 h';omega
 ·exact h'
theorem Zw {m n:Nat} (h:m <= n):(digits m).length <= (digits n).length:=(Zo _ _).2 (Nat.lt_of_le_of_lt h (Zcc n))
theorem Zou {l:List Nat} (h:Lt32 l):canon l=digits (val l):=by
 induction l with
 | nil=>rw [val,Zah];rfl
 | cons x l ih =>
  have hx:=h.head;rw [canon,ih h.tail,val]
  by_cases h0:val l=0
  ·rw [h0,Zah]
   by_cases hx0:x=0
   ·simp [hx0,Zah]
   ·simp only [hx0,if_false]
    rw [Zc6 (by omega),show (x+4294967296 * 0) / 4294967296=0 by omega,Zah,show (x+4294967296 * 0) % 4294967296=x by omega]
  ·rw [Zc6 (n:=x+4294967296 * val l) (by omega),show (x+4294967296 * val l) / 4294967296=val l by omega,show (x+4294967296 * val l) % 4294967296=x by omega]
   obtain ⟨y,m,hm⟩:=List.exists_cons_of_ne_nil (fun e=>h0 (digits_eq_nil.1 e));rw [hm]
theorem Zlr {l:List Nat} (h:Lt32 l) (hl:l.getLast? ≠ some 0):l=digits (val l):=by
 rw [<- Zou h]
 induction l with
 | nil=>rfl
 | cons x l ih =>
  cases l with
  | nil=>simp only [canon];simp at hl;simp [hl]
  | cons y m =>
   have:=ih h.tail (by simpa using hl);rw [canon,<- this]
theorem Zfh {l:List Nat} {k:Nat} (hz:∀ j,k <= j->l[j]?.getD 0=0) (hk:k=0 \/ l[k - 1]?.getD 0 ≠ 0) (hl:Lt32 l):digits (val l)=l.take k:=by
 have hv:val l=val (l.take k):=by
  rcases Nat.lt_or_ge l.length k with h | h
  ·rw [List.take_of_length_le (by omega)]
  ·rw [Zac l k h]
   have:val (l.drop k)=0:=by
    have:∀ m:List Nat,(∀ j:Nat,m[j]?.getD 0=0)->val m=0:=by
     intro m
     induction m with
     | nil=>intro _;rfl
     | cons x m ih =>
      intro hm;have h0:=hm 0;have:=ih (fun j=>by simpa using hm (j+1))
      simp at h0
      simp [val,h0,this]
    exact this _ (fun j=>by rw [List.getElem?_drop];exact hz _ (by omega))
   rw [this];simp
 rw [hv];refine (Zlr (hl.take k) ?_).symm
 rcases hk with rfl | hk
 ·simp
 ·intro h
  have hkl:k - 1 < l.length:=by
   rcases Nat.lt_or_ge (k - 1) l.length with h' | h'
   ·exact h'
   ·rw [List.getElem?_eq_none h'] at hk;simp at hk
  rw [List.getLast?_eq_getElem?,List.length_take] at h;rw [List.getElem?_take] at h
  split at h
  ·rename_i hlt
   rcases Nat.lt_or_ge k l.length with h' | h'
   ·rw [Nat.min_eq_left (by omega)] at h;rw [h] at hk;simp at hk
   ·have:min k l.length - 1=k - 1:=by omega
    rw [this] at h;rw [h] at hk;simp at hk
  ·cases h
theorem val_inj {a b:List Nat} (ha:Lt32 a) (hb:Lt32 b) (hl:a.length=b.length) (h:val a=val b):a=b:=by
 induction a generalizing b with
 | nil=>cases b with
  | nil=>rfl
  | cons _ _=>simp at hl
 | cons x a ih=>cases b with
  | nil=>simp at hl
  | cons y b =>
   have hx:=ha.head;have hy:=hb.head;simp only [val] at h
   obtain rfl:x=y:=by omega
   rw [ih ha.tail hb.tail (by simpa using hl) (by omega)]
theorem Zrp {a b out:List Nat} {k carry s c':Nat} (hk:k < out.length) (hz:out[k]?.getD 0=0) (hI:val out+pw k * carry=val (a.take k)+val (b.take k))
    (he:s+4294967296 * c'=a[k]?.getD 0+b[k]?.getD 0+carry):val (out.set k s)+pw (k+1) * c'=val (a.take (k+1))+val (b.take (k+1)):=by
 have h:=Zgf hk s;rw [hz] at h;rw [Z7,Z7,Zaq]
 have:pw k * (s+4294967296 * c')=pw k * (a[k]?.getD 0+b[k]?.getD 0+carry):=by rw [he]
 grind
theorem Zph {a b out:List Nat} {k borrow s c':Nat} (hk:k < out.length) (hz:out[k]?.getD 0=0) (hI:val out+val (b.take k)=val (a.take k)+pw k * borrow)
    (he:s+b[k]?.getD 0+borrow=a[k]?.getD 0+4294967296 * c'):val (out.set k s)+val (b.take (k+1))=val (a.take (k+1))+pw (k+1) * c':=by
 have h:=Zgf hk s;rw [hz] at h;rw [Z7,Z7,Zaq]
 have:pw k * (s+b[k]?.getD 0+borrow)=pw k * (a[k]?.getD 0+4294967296 * c'):=by rw [he]
 grind
theorem getD_set_ne {l:List Nat} {i j:Nat} (v:Nat) (h:i ≠ j):(l.set i v)[j]?.getD 0=l[j]?.getD 0:=by rw [List.getElem?_set_ne h]
theorem Ziv {l:List Nat} {i:Nat} (v:Nat) (h:i < l.length):(l.set i v)[i]?.getD 0=v:=by rw [List.getElem?_set_self h];rfl
theorem getD_none {l:List Nat} {i:Nat} (h:l.length <= i):l[i]?.getD 0=0:=by rw [List.getElem?_eq_none h];rfl
theorem Zdf (n i:Nat):(List.replicate n 0)[i]?.getD 0=0:=by
 rw [List.getElem?_replicate];split <;> rfl
theorem Zqa {a b out:List Nat} {i k carry s q:Nat} (hk:i+k < out.length)
    (hI:val out+pw (i+k) * carry=val (a.take i) * val b+pw i * (a[i]?.getD 0 * val (b.take k)))
    (he:s+4294967296 * q=carry+a[i]?.getD 0 * b[k]?.getD 0+out[i+k]?.getD 0) :
    val (out.set (i+k) s)+pw (i+(k+1)) * q=val (a.take i) * val b+pw i * (a[i]?.getD 0 * val (b.take (k+1))):=by
 have h:=Zgf hk s;rw [Z7,show i+(k+1)=(i+k)+1 by omega,Zaq]
 have e1:pw (i+k) * (s+4294967296 * q)=pw (i+k) * (carry+a[i]?.getD 0 * b[k]?.getD 0+out[i+k]?.getD 0):=by rw [he]
 have e2:=Zci i k
 generalize pw (i+k)=P at *
 subst e2
 grind
theorem Zsq {a b out:List Nat} {i carry:Nat} (hk:i+b.length < out.length) (hz:out[i+b.length]?.getD 0=0)
    (hI:val out+pw (i+b.length) * carry=val (a.take i) * val b+pw i * (a[i]?.getD 0 * val b)) :
    val (out.set (i+b.length) carry)=val (a.take (i+1)) * val b:=by
 have h:=Zgf hk carry;rw [hz] at h;rw [Z7]
 grind
theorem Zuv {x y z c s q:Nat} (hx:x < 4294967296) (hy:y < 4294967296) (hz:z < 4294967296) (hc:c < 4294967296) (he:s+4294967296 * q=c+x * y+z):q < 4294967296:=by
 have:x * y <= 4294967295 * 4294967295:=Nat.mul_le_mul (by omega) (by omega);omega
open Go.RowKit
theorem Za {p:Prop} (h:p):Hid p:=h
theorem Zmt (a:Addr) (n:Nat):(a.add n).block=a.block:=by unfold Addr.add;split <;> rfl
theorem Zf (g o n:Nat):(⟨g,o,none⟩:Addr).add n=⟨g,o+n,none⟩:=by
 unfold Addr.add;split
 ·subst_vars;rfl
 ·rfl
theorem Z0 {w:World} {p:Addr} {v:Value} (h:w.cell? p=some v):p.block < w.heap.size:=by
 unfold World.cell? at h
 rcases Nat.lt_or_ge p.block w.heap.size with hlt | hge
 ·exact hlt
 ·rw [Array.getElem?_eq_none hge] at h;cases h
def Blk (w:World) (g:Nat) (t:TypeId) (cs:Array Value):Prop:=w.heap[g]?=some (.cells cs t (0,0))
section
variable {w w':World} {g:Nat} {t:TypeId} {cs:Array Value}
theorem Blk.lt (h:Blk w g t cs):g < w.heap.size:=by
 rcases Nat.lt_or_ge g w.heap.size with hlt | hge
 ·exact hlt
 ·unfold Blk at h;rw [Array.getElem?_eq_none hge] at h;cases h
theorem Blk.cell (h:Blk w g t cs) (i:Nat):w.cell? ⟨g,i,none⟩=cs[i]?:=cell_of_row w g i cs t (0,0) h
theorem Blk.frozen (h:Blk w g t cs) (i:Nat):w.frozen? ⟨g,i,none⟩=false:=by
 unfold Blk at h
 simp [World.frozen?,h]
theorem Blk.new (w:World) (t:TypeId) (cs:Array Value):Blk (w.alloc (.cells cs t)) w.heap.size t cs:=heap_alloc_new w _
theorem Blk.drewN (h:Blk w g t cs) (n:Nat):Blk (w.drewN n) g t cs:=h
theorem Blk.alloc (h:Blk w g t cs) (o:Obj):Blk (w.alloc o) g t cs:=(Below.heap_alloc w o g h.lt).trans h
theorem Blk.set_ (h:Blk w g t cs) (i:Nat) (u:Value):Blk (w.setCell ⟨g,i,none⟩ u) g t (cs.setIfInBounds i u):=by
 unfold Blk at h ⊢
 simp [World.setCell,Array.getElem?_modify,h]
theorem Blk.far (h:Blk w g t cs) {p:Addr} (hp:g ≠ p.block) (u:Value):Blk (w.setCell p u) g t cs:=(Below.heap_setCell w p u g hp).trans h
theorem Blk.below {B:Nat} (h:Blk w g t cs) (hb:Below B w w') (hg:g < B):Blk w' g t cs:=(hb.block g hg).trans h
end
theorem Zlt {A:Option Addr} {n n' c:Nat} (h:n=n'):Ending.returned (.slice A n c)=.returned (.slice A n' c):=by rw [h]
theorem Zgj {k:IntKind} {a b:Int} (h:a=b):Ending.returned (.int k a)=.returned (.int k b):=by rw [h]
theorem Zns {a b:Bool} (h:a=b):Ending.returned (.bool a)=.returned (.bool b):=by rw [h]
abbrev limb (x:Nat):Value:=.int .u32 (x:Int)
def Zt (l:List Nat):Array Value:=(l.map limb).toArray
theorem Zai (l:List Nat) (i:Nat) (h:i < l.length):(Zt l)[i]?=some (limb (l[i]?.getD 0)):=by
 simp [Zt,List.getElem?_eq_getElem h]
theorem Zbq (l:List Nat) (i v:Nat):(Zt l).setIfInBounds i (limb v)=Zt (l.set i v):=by
 simp [Zt,List.map_set]
def Lim (w:World) (A:Option Addr) (n c:Nat) (l:List Nat):Prop:=
 l.length=n/\n <= c/\c <= maxLen/\Lt32 l/\(0 < n->∃ b o,A=some ⟨b,o,none⟩/\∀ k,k < n->w.cell? ⟨b,o+k,none⟩=some (limb (l[k]?.getD 0)))
section
variable {w w':World} {A:Option Addr} {n c:Nat} {l:List Nat}
theorem Lim.len (h:Lim w A n c l):l.length=n:=h.1
theorem Lim.lt (h:Lim w A n c l):Lt32 l:=h.2.2.2.1
theorem Lim.nil (w:World) (A:Option Addr) (c:Nat) (hc:c <= maxLen):Lim w A 0 c []:=⟨rfl,Nat.zero_le _,hc,Lt32.nil,fun h=>absurd h (by omega)⟩
theorem Lim.at_ (h:Lim w A n c l) {k:Nat} (hk:k < n):∃ b o,A=some ⟨b,o,none⟩/\w.cell? ⟨b,o+k,none⟩=some (limb (l[k]?.getD 0)):=by
 obtain ⟨b,o,e,hc⟩:=h.2.2.2.2 (by omega);exact ⟨b,o,e,hc k hk⟩
theorem Lim.cell {b o:Nat} (h:Lim w (some ⟨b,o,none⟩) n c l) {k:Nat} (hk:k < n):w.cell? ⟨b,o+k,none⟩=some (limb (l[k]?.getD 0)):=by
 obtain ⟨b',o',e,hc⟩:=h.at_ hk
 cases e;exact hc
theorem Lim.keep (h:Lim w A n c l) (hk:∀ p:Addr,p.block < w.heap.size->w'.cell? p=w.cell? p):Lim w' A n c l:=
 ⟨h.1,h.2.1,h.2.2.1,h.2.2.2.1,fun hn=>by
  obtain ⟨b,o,e,hc⟩:=h.2.2.2.2 hn
  exact ⟨b,o,e,fun k hk'=>(hk _ (Z0 (hc k hk'))).trans (hc k hk')⟩⟩
theorem Lim.below (h:Lim w A n c l) (hb:Below w.heap.size w w'):Lim w' A n c l:=h.keep fun _ hp=>hb.cell hp
theorem Lim.drew (h:Lim w A n c l):Lim w.drew A n c l:=h
theorem Lim.drewN (h:Lim w A n c l) (k:Nat):Lim (w.drewN k) A n c l:=h
theorem Lim.alloc (h:Lim w A n c l) (o:Obj):Lim (w.alloc o) A n c l:=h.below ((Below.refl _ _).alloc (Nat.le_refl _) _)
theorem Lim.take (h:Lim w A n c l) {k:Nat} (hk:k <= n):Lim w A k c (l.take k):=
 ⟨by rw [List.length_take,h.len];omega,by have:=h.2.1;omega,h.2.2.1,h.lt.take k,fun h0=>by
  obtain ⟨b,o,e,hc⟩:=h.2.2.2.2 (by omega);refine ⟨b,o,e,fun j hj=>?_⟩
  rw [hc j (by omega),List.getElem?_take,if_pos hj]⟩
theorem Lim.lt_pw (h:Lim w A n c l):val l < pw n:=by have:=Zen h.lt;rw [h.len] at this;exact this
theorem Lim.of_blk {g:Nat} {t:TypeId} (h:Blk w g t (Zt l)) (hl:Lt32 l) (hn:l.length <= maxLen):Lim w (some ⟨g,0,none⟩) l.length l.length l:=
 ⟨rfl,Nat.le_refl _,hn,hl,fun _=>⟨_,_,rfl,fun k hk=>by rw [Nat.zero_add,h.cell,Zai l k hk]⟩⟩
theorem Lim.canon (h:Lim w A n c l):Lim w A (digits (val l)).length c (digits (val l))/\(digits (val l)).length <= n:=by
 have hle:(digits (val l)).length <= n:=(Zo _ _).2 h.lt_pw;have ht:=h.take hle
 have:l.take (digits (val l)).length=digits (val l):=by
  have hv:val (l.take (digits (val l)).length)=val l:=by
   have h1:=Zac l (digits (val l)).length (by rw [h.len];exact hle);have h2:=Zcc (val l)
   rcases Nat.eq_zero_or_pos (val (l.drop (digits (val l)).length)) with h0 | h0
   ·rw [h0] at h1;omega
   ·have:=Nat.mul_le_mul_left (pw (digits (val l)).length) h0;omega
  refine val_inj (h.lt.take _) (Zf4 _) ?_ ?_
  ·rw [List.length_take,h.len];omega
  ·rw [hv,Zh]
 rw [this] at ht;exact ⟨ht,hle⟩
end
def OutL (w:World) (P:List Nat->Prop) (e:Ending) (w':World):Prop:=
 ∃ A n c l,e=.returned (.slice A n c)/\Lim w' A n c l/\P l/\Below w.heap.size w w'
theorem Zeo {P:Program} (t e:TypeId) {i:TypeInfo} (ht:P.underlying t=some (.slice e)) (hi:P.info? e=some i) (hz:i.zero=some (.int .u32 0)) (hs:i.size=1) (hb:i.bytes=4)
    (x:Int) (n:Nat) (hx:x=n) (hn:n <= 70368744177664) (W:World) :
    (Instr.makeSlice t (.int .i64 x) (.int .i64 x)).run P W=.ok (.slice (some ⟨W.heap.size,0,none⟩) n n) (W.alloc (.cells (Zt (List.replicate n 0)) e)):=by
 subst hx;have hr:=run_make (P:=P) W t e i (.int .u32 0) ht hi hz .i64 .i64 n n (by omega) (by omega) (by rw [hb];omega) (by omega);simp only [Int.toNat_natCast] at hr;rw [hr]
 have:madeCells (Value.int .u32 0).cells (n * i.size)=Zt (List.replicate n 0):=by
  rw [hs,Nat.mul_one]
  apply Array.toList_inj.1
  rw [show (Value.int .u32 0).cells=#[.int .u32 0] from rfl,toList_madeCells_one]
  simp [Zt]
 rw [this]
def sg (neg:Bool) (v:Nat):Int:=if neg then -(v:Int) else v
def Wd (w:World) (neg:Bool) (A:Option Addr) (n c:Nat) (z:Int):Prop:=neg=decide (z < 0)/\n <= 4096/\Lim w A n c (digits z.natAbs)
def ResP (w':World) (z:Int) (neg:Bool) (A:Option Addr) (n c:Nat) (code:Int):Prop:=
 (z.natAbs < pw 4096/\code=0/\Wd w' neg A n c z) \/ (pw 4096 <= z.natAbs/\code=16/\neg=false/\A=none/\n=0/\c=0)
def ResW (w:World) (z:Int) (e:Ending) (w':World):Prop:=
 Below w.heap.size w w'/\∃ neg A n c code,e=.returned (.tuple #[.agg #[.bool neg,.slice A n c],.int .i64 code])/\ResP w' z neg A n c code
section
variable {w w':World} {neg:Bool} {A:Option Addr} {n c:Nat} {z:Int}
theorem Wd.below (h:Wd w neg A n c z) (hb:Below w.heap.size w w'):Wd w' neg A n c z:=⟨h.1,h.2.1,h.2.2.below hb⟩
theorem Wd.lim (h:Wd w neg A n c z):Lim w A n c (digits z.natAbs):=h.2.2
theorem Wd.small (h:Wd w neg A n c z):z.natAbs < pw 4096:=by
 have:=h.2.2.len;exact (Zo _ _).1 (by rw [this];exact h.2.1)
theorem Wd.zero (w:World):Wd w false none 0 0 0:=⟨by simp,by omega,by rw [show digits (Int.natAbs 0)=[] from Zah];exact Lim.nil _ _ _ (Nat.zero_le _)⟩
theorem Wd.sgEq (h:Wd w neg A n c z):sg neg (val (digits z.natAbs))=z:=by
 rw [h.1,Zh];unfold sg;split <;> simp_all <;> omega
theorem Z6 (neg:Bool) (v:Nat):(sg neg v).natAbs=v:=by unfold sg;split <;> simp
theorem Zj0 (neg:Bool) (v:Nat):decide (sg neg v < 0)=(neg && decide (0 < v)):=by
 unfold sg;cases neg <;> simp
theorem length_digits_pos {v:Nat}:0 < (digits v).length ↔ 0 < v:=by
 constructor
 ·intro h;rcases Nat.eq_zero_or_pos v with rfl | h'
  ·rw [Zah] at h;simp at h
  ·exact h'
 ·intro h;rcases Nat.eq_zero_or_pos (digits v).length with h' | h'
  ·have:=(Zo v 0).1 (by omega);rw [Zcw] at this;omega
  ·exact h'
theorem Wd.made {l:List Nat} (h:Lim w A n c l) (neg:Bool) (hs:val l < pw 4096):Wd w (neg && decide (0 < (digits (val l)).length)) A (digits (val l)).length c (sg neg (val l)):=by
 refine ⟨?_,(Zo _ _).2 hs,?_⟩
 ·rw [Zj0];congr 1;simp [length_digits_pos]
 ·rw [Z6];exact h.canon.1
end
theorem Zre {c x y z:Nat} (hc:c < 4294967296) (hx:x < 4294967296) (hy:y < 4294967296) (hz:z < 4294967296) :
    IntKind.u64.wrap ((c:Int)+IntKind.u64.wrap (IntKind.u64.wrap ((x:Int) * y)+z))=((c+x * y+z:Nat):Int):=by
 have h:x * y <= 4294967295 * 4294967295:=Nat.mul_le_mul (by omega) (by omega)
 have e:(x:Int) * y=((x * y:Nat):Int):=by simp
 rw [e]
 generalize x * y=t at *
 simp only [IntKind.wrap_u64];omega
theorem Zkp (t:Nat):(t:Int) / 4294967296=((t / 4294967296:Nat):Int):=by omega
theorem Zjp (t:Nat):(t:Int) % 4294967296=((t % 4294967296:Nat):Int):=by omega
theorem Zca {W w1:World} (hb:Below W.heap.size W w1):(∀ b o,b < W.heap.size->w1.cell? ⟨b,o,none⟩=W.cell? ⟨b,o,none⟩)/\(∀ b o,b < W.heap.size->w1.frozen? ⟨b,o,none⟩=W.frozen? ⟨b,o,none⟩):=
 ⟨fun b o h=>hb.cell (p:=⟨b,o,none⟩) h,fun b o h=>hb.frozen (p:=⟨b,o,none⟩) h⟩
theorem Zb {W w1:World} {p:Addr} {v:Value} (hb:Below W.heap.size W w1) (h:W.cell? p=some v):w1.cell? p=some v:=(hb.cell (Z0 h)).trans h
theorem Zk {W w1:World} {p:Addr} {v:Value} (hb:Below W.heap.size W w1) (h:W.cell? p=some v) (hf:W.frozen? p=false):w1.frozen? p=false:=(hb.frozen (Z0 h)).trans hf
structure WE where
 neg:Bool
 A:Option Addr
 n:Nat
 c:Nat
 l:List Nat
def okW (neg:Bool) (l:List Nat):Bool:=decide (l.length <= 4096) && decide (l.getLast? ≠ some 0) && !(l.isEmpty && neg)
def WE.ok (e:WE):Bool:=okW e.neg e.l
theorem Zqw {neg:Bool} {l:List Nat} (h:4096 < l.length):okW neg l=false:=by unfold okW;simp;omega
theorem Zhn {l:List Nat} (h:0 < l.length):l.getLast?=some (l[l.length - 1]?.getD 0):=by
 rw [List.getLast?_eq_getElem?,List.getElem?_eq_getElem (by omega)];rfl
theorem Zn2 {neg:Bool} {l:List Nat} (h:0 < l.length) (h':l[l.length - 1]?.getD 0=0):okW neg l=false:=by
 unfold okW;rw [Zhn h,h'];simp
theorem Ztr {neg:Bool} {l:List Nat} (h:0 < l.length) (h1:l.length <= 4096) (h':l[l.length - 1]?.getD 0 ≠ 0):okW neg l=true:=by
 have hne:l.isEmpty=false:=by cases l <;> simp_all
 unfold okW;rw [Zhn h]
 simp [h1,hne,h']
theorem Zl7 {neg:Bool} {l:List Nat} (h:l.length=0):okW neg l=!neg:=by
 have:l=[]:=List.eq_nil_of_length_eq_zero h;subst this;simp [okW]
theorem Zhh {neg:Bool} {l:List Nat} (hl:Lt32 l):okW neg l=true ↔ neg=decide (sg neg (val l) < 0)/\l.length <= 4096/\l=digits (sg neg (val l)).natAbs:=by
 rw [Z6,Zj0]
 constructor
 ·intro h
  unfold okW at h;simp only [Bool.and_eq_true,decide_eq_true_eq,Bool.not_eq_true',Bool.and_eq_false_imp] at h;obtain ⟨⟨h1,h2⟩,h3⟩:=h;have h4:=Zlr hl h2;refine ⟨?_,h1,h4⟩
  cases neg with
  | false=>rfl
  | true =>
   have:l ≠ []:=fun e=>by subst e;simp at h3
   have:0 < val l:=by
    rw [<- length_digits_pos,<- h4];exact List.length_pos_iff.2 this
   simp [this]
 ·rintro ⟨h1,h2,h3⟩
  unfold okW;simp only [Bool.and_eq_true,decide_eq_true_eq,Bool.not_eq_true',Bool.and_eq_false_imp];refine ⟨⟨h2,by rw [h3];exact Zfx _⟩,fun h=>?_⟩
  have:l=[]:=by simpa using h
  subst this;rw [h1];simp [val]
theorem Wd.ok {w:World} {neg:Bool} {A:Option Addr} {n c:Nat} {z:Int} (h:Wd w neg A n c z):okW neg (digits z.natAbs)=true:=by
 rw [Zhh (Zf4 _),h.sgEq];exact ⟨h.1,by rw [h.2.2.len];exact h.2.1,rfl⟩
theorem Wd.of_ok {w:World} {neg:Bool} {A:Option Addr} {n c:Nat} {l:List Nat} (h:Lim w A n c l) (hk:okW neg l=true):Wd w neg A n c (sg neg (val l)):=by
 obtain ⟨h1,h2,h3⟩:=(Zhh h.lt).1 hk;refine ⟨h1,by rw [<- h.len];exact h2,?_⟩;rw [<- h3];exact h
def WL (w:World) (A:Option Addr) (n c:Nat) (es:List WE):Prop:=
 es.length=n/\n <= c/\c <= maxLen/\(0 < n->∃ b o,A=some ⟨b,o,none⟩/\∀ k e,es[k]?=some e->w.cell? ⟨b,o+k * 2,none⟩=some (.bool e.neg)/\w.cell? ⟨b,o+k * 2+1,none⟩=some (.slice e.A e.n e.c)) /\
  ∀ e ∈ es,Lim w e.A e.n e.c e.l
section
variable {w w':World} {A:Option Addr} {n c:Nat} {es:List WE}
theorem WL.len (h:WL w A n c es):es.length=n:=h.1
theorem WL.at_ (h:WL w A n c es) {k:Nat} (hk:k < n):∃ b o e,A=some ⟨b,o,none⟩/\es[k]?=some e/\w.cell? ⟨b,o+k * 2,none⟩=some (.bool e.neg)/\w.cell? ⟨b,o+k * 2+1,none⟩=some (.slice e.A e.n e.c)/\Lim w e.A e.n e.c e.l:=by
 obtain ⟨b,o,e,hc⟩:=h.2.2.2.1 (by omega)
 have hl:k < es.length:=by rw [h.1];exact hk
 have:=hc k _ (List.getElem?_eq_getElem hl);exact ⟨b,o,es[k],e,List.getElem?_eq_getElem hl,this.1,this.2,h.2.2.2.2 _ (List.getElem_mem hl)⟩
theorem WL.keep (h:WL w A n c es) (hk:∀ p:Addr,p.block < w.heap.size->w'.cell? p=w.cell? p):WL w' A n c es:=
 ⟨h.1,h.2.1,h.2.2.1,fun hn=>by
  obtain ⟨b,o,e,hc⟩:=h.2.2.2.1 hn;exact ⟨b,o,e,fun k e' he=>⟨(hk _ (Z0 (hc k e' he).1)).trans (hc k e' he).1,(hk _ (Z0 (hc k e' he).2)).trans (hc k e' he).2⟩⟩,
  fun e he=>(h.2.2.2.2 e he).keep hk⟩
theorem WL.below (h:WL w A n c es) (hb:Below w.heap.size w w'):WL w' A n c es:=h.keep fun _ hp=>hb.cell hp
end
theorem WL.one {w:World} {neg:Bool} {A:Option Addr} {n c:Nat} {l:List Nat} (h:Lim w A n c l) (t:TypeId) :
    WL (w.alloc (.cells #[.bool neg,.slice A n c] t)) (some ⟨w.heap.size,0,none⟩) 1 1 [⟨neg,A,n,c,l⟩]:=
 ⟨rfl,by omega,by unfold maxLen;omega,fun _=>⟨_,_,rfl,fun k e he=>by
  cases k with
  | zero =>
   simp at he;subst he
   have hb:=Blk.new w t #[.bool neg,.slice A n c];exact ⟨hb.cell 0,hb.cell 1⟩
  | succ k=>simp at he⟩,fun e he=>by simp at he;subst he;exact h.alloc _⟩
theorem WL.two {w:World} {neg neg':Bool} {A A':Option Addr} {n c n' c':Nat} {l l':List Nat} (h:Lim w A n c l) (h':Lim w A' n' c' l') (t:TypeId) :
    WL (w.alloc (.cells #[.bool neg,.slice A n c,.bool neg',.slice A' n' c'] t)) (some ⟨w.heap.size,0,none⟩) 2 2 [⟨neg,A,n,c,l⟩,⟨neg',A',n',c',l'⟩]:=
 ⟨rfl,by omega,by unfold maxLen;omega,fun _=>⟨_,_,rfl,fun k e he=>by
  have hb:=Blk.new w t #[.bool neg,.slice A n c,.bool neg',.slice A' n' c']
  match k with
  | 0=>simp at he;subst he;exact ⟨hb.cell 0,hb.cell 1⟩
  | 1=>simp at he;subst he;exact ⟨hb.cell 2,hb.cell 3⟩
  | k+2=>simp at he⟩,fun e he=>by
   simp at he
   rcases he with rfl | rfl
   ·exact h.alloc _
   ·exact h'.alloc _⟩
theorem Zc {W w1:World} {g:Nat} {t:TypeId} {cs:Array Value} (hb:Below W.heap.size W w1) (h:Blk W g t cs):Blk w1 g t cs:=h.below hb h.lt
def NoLimb (cs:Array Value):Prop:=∀ (i x:Nat),cs[i]? ≠ some (limb x)
theorem NoLimb.box (b:Bool) (A:Option Addr) (n c:Nat):NoLimb #[.bool b,.slice A n c]:=fun i x=>by
 match i with
 | 0=>simp
 | 1=>simp
 | i+2=>simp
theorem Lim.set_box {w:World} {A:Option Addr} {n c:Nat} {l:List Nat} (h:Lim w A n c l) {g:Nat} {t:TypeId} {cs:Array Value} (hb:Blk w g t cs) (hcs:NoLimb cs) (i:Nat) (u:Value):Lim (w.setCell ⟨g,i,none⟩ u) A n c l:=
 ⟨h.1,h.2.1,h.2.2.1,h.2.2.2.1,fun hn=>by
  obtain ⟨b,o,e,hc⟩:=h.2.2.2.2 hn;refine ⟨b,o,e,fun k hk=>(World.cell?_setCell_other w _ _ u ?_).trans (hc k hk)⟩;intro he
  have hbg:b=g:=by cases he;rfl
  have:=hc k hk;rw [hbg,hb.cell] at this
  exact hcs _ _ this⟩
theorem ResP.set_box {w:World} {z:Int} {neg:Bool} {A:Option Addr} {n c:Nat} {code:Int} (h:ResP w z neg A n c code) {g:Nat} {t:TypeId} {cs:Array Value} (hb:Blk w g t cs) (hcs:NoLimb cs) (i:Nat) (u:Value):ResP (w.setCell ⟨g,i,none⟩ u) z neg A n c code:=by
 rcases h with ⟨h1,h2,h3⟩ | h
 ·exact .inl ⟨h1,h2,h3.1,h3.2.1,h3.2.2.set_box hb hcs i u⟩
 ·exact .inr h
theorem ResW.box {w w3:World} {z:Int} {neg:Bool} {A:Option Addr} {n c:Nat} {code:Int} {g:Nat} {t:TypeId} {b0:Bool} {A0:Option Addr} {n0 c0:Nat} (hP:ResP w3 z neg A n c code) (hB:Below w.heap.size w w3) (hg:w.heap.size <= g) (hb:Blk w3 g t #[.bool b0,.slice A0 n0 c0]) :
    ResW w z (.returned (.tuple #[.agg #[.bool neg,.slice A n c],.int .i64 code])) ((w3.setCell ⟨g,0,none⟩ (.bool neg)).setCell ⟨g,1,none⟩ (.slice A n c)):=by
 have hb1:Blk (w3.setCell ⟨g,0,none⟩ (.bool neg)) g t #[.bool neg,.slice A0 n0 c0]:=hb.set_ 0 (.bool neg);exact ⟨(hB.setCell (p:=⟨g,0,none⟩) hg _).setCell (p:=⟨g,1,none⟩) hg _,_,_,_,_,_,rfl,(hP.set_box hb (NoLimb.box _ _ _ _) _ _).set_box hb1 (NoLimb.box _ _ _ _) _ _⟩
def Reads (w:World) (B size:Nat) (A:Option Addr) (n:Nat) (xs:List Value):Prop:=
 xs.length=n * size/\(0 < n->∃ ad,A=some ad/\ad.block < B/\∀ j u,xs[j]?=some u->w.cell? (ad.add j)=some u)
section
variable {w w':World} {B B' size n:Nat} {A:Option Addr} {xs:List Value}
theorem Reads.keep (h:Reads w B size A n xs) (hk:∀ p:Addr,p.block < B->w'.cell? p=w.cell? p):Reads w' B size A n xs:=
 ⟨h.1,fun hn=>by
  obtain ⟨ad,e,hb,hc⟩:=h.2 hn
  exact ⟨ad,e,hb,fun j u hu=>(hk _ (by rw [Zmt];exact hb)).trans (hc j u hu)⟩⟩
theorem Reads.alloc (h:Reads w B size A n xs) (hB:B <= w.heap.size) (o:Obj):Reads (w.alloc o) B size A n xs:=h.keep fun p hp=>World.cell?_alloc_lt w o p (by omega)
end
section
variable {P:Program} (w:World)
theorem Zck (base:Nat) (t ty e:TypeId) (i:TypeInfo) (size:Nat) (ht:P.underlying t=some (.slice e)) (hi:P.info? e=some i)
    (v:Value) (n:Nat) (xs:List Value) (hown:w.ownsRow base e size v n xs) (c:Nat):(Builtin.append_ #[t,t] ty #[v,.slice none 0 c]).run P w=.ok v w:=by
 rcases hown.2 with ⟨rfl,rfl⟩ | ⟨g,cap,cur,rfl,_,_,hnc,_⟩
 ·simp [Builtin.append_,run_underlying ht,sizeOf,typeInfo,hi,Builtin.lenOf,Builtin.firstCells]
 ·simp [Builtin.append_,run_underlying ht,sizeOf,typeInfo,hi,Builtin.lenOf,Builtin.firstCells,hnc,storeCells]
theorem Zi8 (base:Nat) (t ty e:TypeId) (i:TypeInfo) (z:Value) (size bytes:Nat) (ht:P.underlying t=some (.slice e)) (hi:P.info? e=some i) (hz:i.zero=some z)
    (hsize:i.size=size) (hby:i.bytes=bytes) (hzs:z.cells.size=size) (hsz:0 < size)
    (v:Value) (n:Nat) (xs:List Value) (hown:w.ownsRow base e size v n xs)
    (B:Nat) (A:Option Addr) (m c:Nat) (news:List Value) (hr:Reads w B size A m news) (h1:∀ u ∈ news,u.oneCell'=true)
    (h63:n+m <= maxLen) (hbytes:(n+m) * bytes <= 140737488355328) (hbase:base <= w.heap.size) :
    ∃ v' w',(Builtin.append_ #[t,t] ty #[v,.slice A m c]).run P w=.ok v' w'/\w'.ownsRow base e size v' (n+m) (xs ++ news)/\w.grownBy w' v.ownBlock /\
     (v'.ownBlock=v.ownBlock \/ v'.ownBlock=some w.heap.size):=by
 rcases A with _ | ad
 ·have hm:m=0:=by
    rcases Nat.eq_zero_or_pos m with h0 | h0
    ·exact h0
    ·obtain ⟨ad,h,_⟩:=hr.2 h0
     cases h
  subst hm;have hn:news=[]:=List.eq_nil_of_length_eq_zero (by simpa using hr.1);subst hn;exact ⟨v,w,Zck w base t ty e i size ht hi v n xs hown c,by simpa using hown,World.grownBy.refl w _,.inl rfl⟩
 ·have hcells:∀ j u,news[j]?=some u->w.cell? (ad.add j)=some u:=by
    intro j u hu
    rcases Nat.eq_zero_or_pos m with h0 | h0
    ·subst h0
     have hn:news=[]:=List.eq_nil_of_length_eq_zero (by simpa using hr.1);subst hn
     simp at hu
    ·obtain ⟨ad',h,_,hc⟩:=hr.2 h0
     injection h with h
     subst h;exact hc j u hu
  obtain ⟨v',w',hrun,h2,h3,_,h5⟩:=run_append_own_at (P:=P) w base t ty e i z size bytes ht hi hz hsize hby hzs hsz v n xs hown ad m c news hr.1 hcells h1 h63 hbytes hbase;exact ⟨v',w',hrun,h2,h3,h5⟩
theorem Zgu {o:Oper} {a:Act} {K:Act->World->Prop} {Q:Exit->Act->World->Prop} (s x:Operand) (t:TypeId)
    (ho:o.op=.call { callee:=.builtin .append,args:=#[s,x],argTypes:=#[t,t] })
    (base:Nat) (e:TypeId) (i:TypeInfo) (z:Value) (size bytes:Nat) (ht:P.underlying t=some (.slice e)) (hi:P.info? e=some i) (hz:i.zero=some z)
    (hsize:i.size=size) (hby:i.bytes=bytes) (hzs:z.cells.size=size) (hsz:0 < size)
    (v:Value) (n:Nat) (xs:List Value) (hs:a.eval s=v) (hown:w.ownsRow base e size v n xs)
    (B:Nat) (A:Option Addr) (m c:Nat) (news:List Value) (hx:a.eval x=.slice A m c) (hr:Reads w B size A m news) (h1:∀ u ∈ news,u.oneCell'=true)
    (h63:n+m <= maxLen) (hbytes:(n+m) * bytes <= 140737488355328) (hbase:base <= w.heap.size)
    (h:∀ v' w',w'.ownsRow base e size v' (n+m) (xs ++ news)->w.grownBy w' v.ownBlock->(v'.ownBlock=v.ownBlock \/ v'.ownBlock=some w.heap.size)->K (a.put o.dst v') w'):o.wp P a w K Q:=by
 obtain ⟨v',w',hrun,h2,h3,h4⟩:=Zi8 (P:=P) w base t o.type e i z size bytes ht hi hz hsize hby hzs hsz v n xs hown B A m c news hr h1 h63 hbytes hbase;unfold Oper.wp execOp;simp only [ho,resolve,invoke,builtin,Sem.run_bind,Sem.run_pure,Result.andThen_ok,List.map_toArray,List.map_cons,List.map_nil,hs,hx,hrun];exact h v' w' h2 h3 h4
theorem Zu {ops:Array Oper} {rest:List Oper} {o:Oper} {a:Act} {Q:Exit->Act->World->Prop} (hgd:o.guard=none) (s x:Operand) (t:TypeId)
    (ho:o.op=.call { callee:=.builtin .append,args:=#[s,x],argTypes:=#[t,t] })
    (base:Nat) (e:TypeId) (i:TypeInfo) (z:Value) (size bytes:Nat) (ht:P.underlying t=some (.slice e)) (hi:P.info? e=some i) (hz:i.zero=some z)
    (hsize:i.size=size) (hby:i.bytes=bytes) (hzs:z.cells.size=size) (hsz:0 < size)
    (v:Value) (n:Nat) (xs:List Value) (hs:a.eval s=v) (hown:w.ownsRow base e size v n xs)
    (B:Nat) (A:Option Addr) (m c:Nat) (news:List Value) (hx:a.eval x=.slice A m c) (hr:Reads w B size A m news) (h1:∀ u ∈ news,u.oneCell'=true)
    (h63:n+m <= maxLen) (hbytes:(n+m) * bytes <= 140737488355328) (hbase:base <= w.heap.size)
    (h:∀ v' w',w'.ownsRow base e size v' (n+m) (xs ++ news)->w.grownBy w' v.ownBlock->(v'.ownBlock=v.ownBlock \/ v'.ownBlock=some w.heap.size)->wpList P ops Q rest (a.put o.dst v') w'):wpList P ops Q (o :: rest) a w:=
 wpList_plain hgd fun _ hK=>Zgu w s x t ho base e i z size bytes ht hi hz hsize hby hzs hsz v n xs hs hown B A m c news hx hr h1 h63 hbytes hbase fun v' w' h2 h3 h4=>hK _ _ (h v' w' h2 h3 h4)
end
theorem Lim.reads {w:World} {A:Option Addr} {n c:Nat} {l:List Nat} (h:Lim w A n c l):Reads w w.heap.size 1 A n (l.map limb):=
 ⟨by simp [h.len],fun hn=>by
  obtain ⟨b,o,e,hc⟩:=h.2.2.2.2 hn;refine ⟨_,e,Z0 (hc 0 hn),fun j u hu=>?_⟩;rw [Zf]
  have hj:j < n:=by
   rcases Nat.lt_or_ge j n with h' | h'
   ·exact h'
   ·rw [List.getElem?_eq_none (by simp [h.len];exact h')] at hu;cases hu
  rw [hc j hj];rw [List.getElem?_map,List.getElem?_eq_getElem (by rw [h.len];exact hj)] at hu;rw [List.getElem?_eq_getElem (by rw [h.len];exact hj)]
  simpa using hu⟩
def OwnL (t:TypeId) (w:World) (base:Nat) (v:Value) (l:List Nat):Prop:=w.ownsRow base t 1 v l.length (l.map limb)/\Lt32 l
theorem OwnL.nil (t:TypeId) (w:World) (base:Nat):OwnL t w base (.slice none 0 0) []:=⟨World.ownsRow_nil _ _ _ _,Lt32.nil⟩
theorem OwnL.lim {t:TypeId} {w:World} {base:Nat} {v:Value} {l:List Nat} (h:OwnL t w base v l):∃ A c,v=.slice A l.length c/\Lim w A l.length c l:=by
 obtain ⟨h1,h2⟩:=h
 rcases h1.2 with ⟨hv,h0⟩ | ⟨g,cap,cur,hv,_,hh,hnc,hcm,hcs,ht⟩
 ·have:l=[]:=List.eq_nil_of_length_eq_zero h0
  subst this;exact ⟨none,0,hv,Lim.nil _ _ _ (Nat.zero_le _)⟩
 ·refine ⟨_,cap,hv,rfl,hnc,hcm,h2,fun _=>⟨g,0,rfl,fun k hk=>?_⟩⟩
  rw [Nat.zero_add,cell_of_row w g k cur t (0,0) hh]
  have h3:(cur.toList.take (l.length * 1))[k]?=(l.map limb)[k]?:=by rw [ht]
  rw [List.getElem?_take,if_pos (by omega),List.getElem?_map,List.getElem?_eq_getElem hk] at h3;rw [List.getElem?_eq_getElem hk]
  simpa using h3
theorem OwnL.kept {t:TypeId} {w w':World} {base:Nat} {v:Value} {l:List Nat} (h:OwnL t w base v l) (hb:Below w.heap.size w w'):OwnL t w' base v l:=by
 refine ⟨⟨h.1.1,?_⟩,h.2⟩
 rcases h.1.2 with h0 | ⟨g,cap,cur,hv,hg,hh,r⟩
 ·exact .inl h0
 ·exact .inr ⟨g,cap,cur,hv,hg,(hb.block g (Array.getElem?_eq_some_iff.1 hh).1).trans hh,r⟩
theorem OwnL.append {t:TypeId} {w':World} {base:Nat} {v':Value} {l m:List Nat} {n k:Nat} (hn:n=l.length) (hk:k=m.length) (h:w'.ownsRow base t 1 v' (n+k) (l.map limb ++ m.map limb)) (hl:Lt32 l) (hm:Lt32 m):OwnL t w' base v' (l ++ m):=by
 subst hn hk;refine ⟨?_,hl.append hm⟩;rw [List.length_append,List.map_append];exact h
theorem OwnL.row_ge {t:TypeId} {w:World} {base:Nat} {v:Value} {l:List Nat} (h:OwnL t w base v l):∀ k,v.ownBlock=some k->base <= k:=fun k hk=>(h.1.lt k hk).1
theorem Zc2 (l:List Nat):∀ u ∈ l.map limb,u.oneCell'=true:=fun u hu=>by
 obtain ⟨x,_,rfl⟩:=List.mem_map.1 hu;rfl
theorem Zio (w:World) (t:TypeId) (size:Nat):(w.alloc (.cells #[] t)).ownsRow w.heap.size t size (.slice (some ⟨w.heap.size,0,none⟩) 0 0) 0 []:=by
 have:=World.ownsRow_lit (base:=w.heap.size) (e:=t) (size:=size) w #[] 0 (Nat.le_refl _) (Nat.zero_le _) (by simp)
 simpa using this
theorem OutL.of_append {t:TypeId} {w w1 wb:World} {v1:Value} {m:List Nat} {k:Nat} {P:List Nat->Prop} {row:Option Nat} (h:w1.ownsRow w.heap.size t 1 v1 (0+k) ([] ++ m.map limb)) (hk:m.length=k) (hm:Lt32 m)
    (hB:Below w.heap.size w wb) (hg:wb.grownBy w1 row) (hr:∀ j,row=some j->w.heap.size <= j) (hP:P m):OutL w P (.returned v1) w1:=by
 have h2:OwnL t w1 w.heap.size v1 ([] ++ m):=OwnL.append (l:=[]) rfl hk.symm h Lt32.nil hm;rw [List.nil_append] at h2;obtain ⟨A,c,rfl,hL⟩:=h2.lim;exact ⟨A,_,c,m,rfl,hL,hP,hB.grown hg hB.size hr⟩
theorem Zi {B:Nat} {a w:World} (h:Below B a w) (n:Nat):Below B a (w.drewN n):=⟨h.os,h.tape,h.output,h.size,h.block⟩
theorem Zbk (w:World) (x:Value) (t:TypeId):Reads (w.alloc (.cells #[x] t)) (w.heap.size+1) 1 (some ⟨w.heap.size,0,none⟩) 1 [x]:=
 ⟨rfl,fun _=>⟨_,rfl,Nat.lt_succ_self _,fun j u hu=>by
  cases j with
  | zero =>
   simp at hu;subst hu
   exact (Blk.new w t #[x]).cell 0
  | succ j=>simp at hu⟩⟩
theorem OwnL.snoc {t:TypeId} {w':World} {base:Nat} {v':Value} {l:List Nat} {n:Nat} {X:Int} {s:Nat} (hn:n=l.length) (h:w'.ownsRow base t 1 v' (n+1) (l.map limb ++ [.int .u32 X])) (hl:Lt32 l) (hX:X=s) (hs:s < 4294967296):OwnL t w' base v' (l ++ [s]):=by
 subst hX;exact OwnL.append (m:=[s]) hn rfl h hl (Lt32.cons hs Lt32.nil)
theorem Zdv (l:List Nat) (x:Nat):val (l ++ [x])=val l+pw l.length * x:=by rw [Zfk];simp [val]
theorem OutL.of_own {t:TypeId} {w w1:World} {v1:Value} {m:List Nat} {P:List Nat->Prop} (h:OwnL t w1 w.heap.size v1 m) (hB:Below w.heap.size w w1) (hP:P m):OutL w P (.returned v1) w1:=by
 obtain ⟨A,c,rfl,hL⟩:=h.lim;exact ⟨A,_,c,m,rfl,hL,hP,hB⟩
theorem Zly {U V P uh v1:Nat} (hv:0 < v1) (hV:v1 * P <= V) (hU:U < (uh+1) * P):U / V <= uh / v1:=by
 rw [Nat.le_div_iff_mul_le hv];have h1:U / V * V <= U:=Nat.div_mul_le_self U V;have h2:U / V * (v1 * P) <= U / V * V:=Nat.mul_le_mul_left _ hV
 have h3:U / V * v1 * P < (uh+1) * P:=by rw [Nat.mul_assoc];omega
 have:=Nat.lt_of_mul_lt_mul_right h3;omega
theorem Zme {U V P uh v1 q:Nat} (hV:v1 * P <= V) (hU:U < (uh+1) * P) (hq:uh < q * v1):U / V < q:=by
 rcases Nat.lt_or_ge (U / V) q with h | h
 ·exact h
 ·exfalso
  have h1:U / V * V <= U:=Nat.div_mul_le_self U V;have h2:q * (v1 * P) <= U / V * V:=Nat.mul_le_mul h hV;have h3:(uh+1) * P <= q * v1 * P:=Nat.mul_le_mul_right _ hq;rw [Nat.mul_assoc] at h3;omega
theorem Zhs {u u0 v:List Nat} {i q carry borrow c lo d b:Nat} (hi:i < u.length)
    (hI:val (u.take i)+q * val (v.take i)=val (u0.take i)+pw i * (carry+borrow)) (ht:lo+4294967296 * c=carry+q * v[i]?.getD 0) (hd:d+lo+borrow=u0[i]?.getD 0+4294967296 * b) :
    val ((u.set i d).take (i+1))+q * val (v.take (i+1))=val (u0.take (i+1))+pw (i+1) * (c+b):=by
 rw [Z7,Z7 v,Z7 u0,List.take_set_of_le (Nat.le_refl i),List.getElem?_set_self hi,Zaq,Nat.mul_add q];simp only [Option.getD_some]
 generalize v[i]?.getD 0=x at *
 generalize u0[i]?.getD 0=y at *
 generalize val (u.take i)=a at *
 generalize val (v.take i)=e at *
 generalize val (u0.take i)=f at *
 have e1:q * (pw i * x)=pw i * (q * x):=by rw [Nat.mul_left_comm]
 rw [e1]
 have e2:pw i * (q * x)+pw i * carry=pw i * lo+pw i * (4294967296 * c):=by rw [<- Nat.mul_add,<- Nat.mul_add,ht,Nat.add_comm]
 have e3:pw i * d+pw i * lo+pw i * borrow=pw i * y+pw i * (4294967296 * b):=by rw [<- Nat.mul_add,<- Nat.mul_add,<- Nat.mul_add,hd]
 have e4:4294967296 * pw i * (c+b)=pw i * (4294967296 * c)+pw i * (4294967296 * b):=by rw [Nat.mul_add,Nat.mul_comm 4294967296 (pw i),Nat.mul_assoc,Nat.mul_assoc]
 rw [Nat.mul_add] at hI;rw [e4];omega
attribute [local go_sem] Zf
theorem Ze3 (A:Option Addr) (n c:Nat) (l:List Nat) (w:World) (h:Lim w A n c l) :
    Calls Tryz.prog 149 #[.slice A n c] w fun e w'=>e=.returned (.slice A (digits (val l)).length c)/\w=w':=by
 have hn:=h.2.1;have hm:=h.2.2.1;unfold maxLen at hm;go_enter Tryz.func149,Tryz.ntmps149
 go_wp2
 go_loop [3] (fun v=>∃ k:Nat,k <= n/\v=.int .i64 k/\Hid (∀ j,k <= j->l[j]?.getD 0=0)) (fun v=>(intOf v).toNat)
 case atStart=>exact ⟨n,Nat.le_refl _,rfl,fun j hj=>by rw [List.getElem?_eq_none (by rw [h.len];exact hj)];rfl⟩
 case round =>
  obtain ⟨k,hk,rfl,hz⟩:=hrel
  by_cases hk0:0 < k
  ·obtain ⟨b,o,rfl,hcell⟩:=h.at_ (k:=k - 1) (by omega)
   by_cases hx:l[k-1]?.getD 0=0
   ·have hb:(((l[k-1]?.getD 0:Nat):Int) == 0)=true:=by simp [hx]
    clear h;have hx:=Za hx
    go_wp2
    go_round
    case rel=>exact ⟨k - 1,by omega,by go_num,fun j hj=>by
        rcases Nat.lt_or_ge j k with h' | h'
        ·obtain rfl:j=k - 1:=by omega
         exact hx.out
        ·exact hz.out j h'⟩
    case measure=>simp [intOf];omega
   ·have hb:(((l[k-1]?.getD 0:Nat):Int) == 0)=false:=by simpa using hx
    have hd:=Zfh hz.out (Or.inr hx) h.lt;have hlk:=congrArg List.length hd;rw [List.length_take,h.len,Nat.min_eq_left hk] at hlk;have HL:=Za hlk;clear h hd hlk hx
    go_wp2
    go_ret;exact ⟨Zlt HL.out.symm,rfl⟩
  ·obtain rfl:k=0:=by omega
   have HL:=Za (congrArg List.length (Zfh hz.out (Or.inl rfl) h.lt));clear h
   go_wp2
   go_ret;exact ⟨Zlt HL.out.symm,rfl⟩
theorem Zg3 {a b:Int} {s k:Nat} (h1:a=s) (h2:b=k):Ending.returned (.tuple #[.int .u32 a,.int .u32 b])=.returned (.tuple #[limb s,limb k]):=by rw [h1,h2]
def Sum32 (t:Nat) (w:World) (e:Ending) (w':World):Prop:=
 ∃ s k:Nat,e=.returned (.tuple #[limb s,limb k])/\s < 4294967296/\s+4294967296 * k=t/\w=w'
theorem Zgn (x y c:Nat) (w:World) (hx:x < 4294967296) (hy:y < 4294967296) (hc:c <= 1) :
    Calls Tryz.prog 211 #[limb x,limb y,limb c] w (Sum32 (x+y+c) w):=by
 go_enter Tryz.func211,Tryz.ntmps211
 go_wp2
 go_ret2
 exact ⟨(x+y+c) % 4294967296,(x+y+c) / 4294967296,Zg3 (by omega) (by omega),by omega,by omega,rfl⟩
theorem Ze1 (z:Nat) (h:z < 4294967296):z.testBit 31=decide (2147483648 <= z):=by
 rw [Nat.testBit_eq_decide_div_mod_eq]
 congr 1
 apply propext
 constructor <;> intro h' <;> omega
theorem div31 (z:Nat) (h:z < 4294967296):z / 2147483648=(z.testBit 31).toNat:=by
 rw [Ze1 z h]
 by_cases h':2147483648 <= z
 ·simp [h'];omega
 ·simp [h'];omega
theorem Zpi (x y d c:Nat) (hx:x < 4294967296) (hy:y < 4294967296) (hc:c <= 1) (hd:d < 4294967296) (k:Nat) (he:d+y+c=x+4294967296 * k) :
    ((((4294967295 ^^^ x) &&& y) ||| ((4294967295 ^^^ (x ^^^ y)) &&& d)) / 2147483648)=k:=by
 have hxy:x ^^^ y < 2 ^ 32:=Nat.xor_lt_two_pow (by omega) (by omega);have h1:4294967295 ^^^ x < 2 ^ 32:=Nat.xor_lt_two_pow (by omega) (by omega);have h2:4294967295 ^^^ (x ^^^ y) < 2 ^ 32:=Nat.xor_lt_two_pow (by omega) hxy;have h3:(4294967295 ^^^ x) &&& y < 2 ^ 32:=Nat.and_lt_two_pow _ (by omega);have h4:(4294967295 ^^^ (x ^^^ y)) &&& d < 2 ^ 32:=Nat.and_lt_two_pow _ (by omega);have h5:=Nat.or_lt_two_pow h3 h4;rw [div31 _ (by omega)];simp only [Nat.testBit_or,Nat.testBit_and,Nat.testBit_xor,Ze1 x hx,Ze1 y hy,Ze1 d hd,Ze1 4294967295 (by omega)]
 by_cases a:2147483648 <= x <;> by_cases b:2147483648 <= y <;> by_cases e:2147483648 <= d <;> simp [a,b,e] <;> omega
def Dif32 (x y c:Nat) (w:World) (e:Ending) (w':World):Prop:=
 ∃ d k:Nat,e=.returned (.tuple #[limb d,limb k])/\d < 4294967296/\k <= 1/\d+y+c=x+4294967296 * k/\w=w'
theorem Zgp (x y c:Nat) (w:World) (hx:x < 4294967296) (hy:y < 4294967296) (hc:c <= 1) :
    Calls Tryz.prog 222 #[limb x,limb y,limb c] w (Dif32 x y c w):=by
 go_enter Tryz.func222,Tryz.ntmps222
 go_wp2
 go_ret2
 have e1:((x:Int) - y - c) % 4294967296=(((x+8589934592 - y - c) % 4294967296:Nat):Int):=by omega
 have hd:(x+8589934592 - y - c) % 4294967296 < 4294967296:=by omega
 obtain ⟨k,hk⟩:∃ k,k <= 1/\(x+8589934592 - y - c) % 4294967296+y+c=x+4294967296 * k:=⟨if x < y+c then 1 else 0,by split <;> omega⟩;refine ⟨(x+8589934592 - y - c) % 4294967296,k,Zg3 e1 ?_,hd,hk.1,hk.2,rfl⟩;show bits .or .u32 _ _ / 2147483648=_;rw [e1,show (IntKind.u32.max:Int)=((4294967295:Nat):Int) from rfl];have hb:=Zpi x y _ c hx hy hc hd k hk.2
 generalize (x+8589934592 - y - c) % 4294967296=d at *
 have hxy:x ^^^ y < 2 ^ 32:=Nat.xor_lt_two_pow (by omega) (by omega);have h1:4294967295 ^^^ x < 2 ^ 32:=Nat.xor_lt_two_pow (by omega) (by omega);have h2:4294967295 ^^^ (x ^^^ y) < 2 ^ 32:=Nat.xor_lt_two_pow (by omega) hxy;have h3:(4294967295 ^^^ x) &&& y < 2 ^ 32:=Nat.and_lt_two_pow _ (by omega);have h4:(4294967295 ^^^ (x ^^^ y)) &&& d < 2 ^ 32:=Nat.and_lt_two_pow _ (by omega);rw [u32_xor_nat x y hx hy,u32_xor_nat _ x (by omega) hx,u32_xor_nat _ (x ^^^ y) (by omega) (by omega),u32_and_nat _ y (by omega) hy,u32_and_nat _ d (by omega) hd,u32_or_nat _ _ (by omega) (by omega)];omega
theorem Zco:(Tryz.prog.info? 147).map (fun i=>(i.zero,i.size,i.bytes))=some (some (.int .u32 0),1,4):=by kernel_rfl
def Plus1 (w:World) (a b:List Nat) (g n k carry:Nat) (wr:World):Prop:=
 ∃ out,Blk wr g 147 (Zt out)/\out.length=n+1/\Lt32 out/\(∀ j,k <= j->out[j]?.getD 0=0)/\val out+pw k * carry=val (a.take k)+val (b.take k)/\Below w.heap.size w wr
theorem Plus1.start (w:World) (a b:List Nat) (n:Nat):Plus1 w a b w.heap.size n 0 0 (w.alloc (.cells (Zt (List.replicate (n+1) 0)) 147)):=
 ⟨List.replicate (n+1) 0,Blk.new _ _ _,by simp,Lt32.replicate _,fun j _=>Zdf _ _,by simp [Zdt,val],(Below.refl _ _).alloc (Nat.le_refl _) _⟩
theorem Plus1.step {w wr:World} {a b out:List Nat} {n k carry s q:Nat} (hblk:Blk wr w.heap.size 147 (Zt out)) (hlen:out.length=n+1) (hlt:Lt32 out) (hz:∀ j,k <= j->out[j]?.getD 0=0)
    (hI:val out+pw k * carry=val (a.take k)+val (b.take k)) (hB:Below w.heap.size w wr) (hk:k < n) (hs:s < 4294967296) (he:s+4294967296 * q=a[k]?.getD 0+b[k]?.getD 0+carry) :
    Plus1 w a b w.heap.size n (k+1) q (wr.setCell ⟨w.heap.size,k,none⟩ (limb s)):=
 ⟨out.set k s,by rw [<- Zbq];exact hblk.set_ _ _,by rw [List.length_set];exact hlen,hlt.set _ hs,fun j hj=>by rw [getD_set_ne _ (by omega)];exact hz j (by omega),
  Zrp (by omega) (hz k (Nat.le_refl _)) hI he,hB.setCell (p:=⟨w.heap.size,k,none⟩) (Nat.le_refl _) _⟩
theorem Plus1.stop {w wr:World} {a b out:List Nat} {n carry:Nat} (hblk:Blk wr w.heap.size 147 (Zt out)) (hlen:out.length=n+1) (hlt:Lt32 out) (hz:∀ j,n <= j->out[j]?.getD 0=0)
    (hI:val out+pw n * carry=val (a.take n)+val (b.take n)) (hB:Below w.heap.size w wr) (hc:carry <= 1) (ha:a.length <= n) (hb:b.length <= n) (hn:n < maxLen) :
    OutL w (fun l=>l.length=n+1/\val l=val a+val b) (.returned (.slice (some ⟨w.heap.size,0,none⟩) (n+1) (n+1))) (wr.setCell ⟨w.heap.size,n,none⟩ (limb carry)):=by
 have hb2:Blk (wr.setCell ⟨w.heap.size,n,none⟩ (limb carry)) w.heap.size 147 (Zt (out.set n carry)):=by rw [<- Zbq];exact hblk.set_ _ _
 have hL:=Lim.of_blk hb2 (hlt.set _ (by omega)) (by rw [List.length_set];omega);rw [List.length_set,hlen] at hL;refine ⟨_,_,_,_,rfl,hL,⟨by rw [List.length_set];exact hlen,?_⟩,hB.setCell (p:=⟨w.heap.size,n,none⟩) (Nat.le_refl _) _⟩;have:=Zgf (l:=out) (k:=n) (by omega) carry;rw [hz n (Nat.le_refl _)] at this;rw [Zab ha,Zab hb] at hI;omega
theorem Zn7 (sw:Bool) (A B:Option Addr) (n c m d:Nat) (a b:List Nat) (w:World) (ha:Lim w A n c a) (hb:Lim w B m d b) (hsw:sw=true->m < n) (hsw':sw=false->m <= n) (hn:n <= 1000000000) :
    Calls Tryz.prog 153 (if sw=true then #[.slice B m d,.slice A n c] else #[.slice A n c,.slice B m d]) w (OutL w fun l=>l.length=n+1/\val l=val a+val b):=by
 obtain ⟨i0,hi,hz0,hz1,hz2⟩:=info_parts Zco;have hmk:=Zeo (P:=Tryz.prog) 25 147 Tryz.underlying25 hi hz0 hz1 hz2 ((n:Int)+1) (n+1) (by omega) (by omega);have hnc:=ha.2.1;have hmd:=hb.2.1;have hcm:=ha.2.2.1;have hdm:=hb.2.2.1
 have hnm:n < maxLen:=by unfold maxLen;omega
 unfold maxLen at hcm hdm
 have HS:Hid (∀ k carry wr,Plus1 w a b w.heap.size n k carry wr->n <= k->k <= n->carry <= 1->OutL w (fun l=>l.length=n+1/\val l=val a+val b) (.returned (.slice (some ⟨w.heap.size,0,none⟩) (n+1) (n+1))) (wr.setCell ⟨w.heap.size,n,none⟩ (limb carry))):=by
  rintro k carry wr ⟨out,h1,h2,h3,h4,h5,h6⟩ h7 h8 h9
  obtain rfl:k=n:=by omega
  exact Plus1.stop h1 h2 h3 h4 h5 h6 h9 (by rw [ha.len];omega) (by rw [hb.len];cases sw;exact hsw' rfl;exact Nat.le_of_lt (hsw rfl)) hnm
 have hmn:m <= n:=by cases sw;exact hsw' rfl;exact Nat.le_of_lt (hsw rfl)
 cases sw
 ·clear hsw hsw' hnm
  have hdd:decide (n < m)=false:=by simp;omega
  show Calls _ _ #[.slice A n c,.slice B m d] _ _;go_enter Tryz.func153,Tryz.ntmps153
  go_wp2
  go_loopw [6,23] (fun cv iv wr=>∃ k carry:Nat,k <= n/\carry <= 1/\cv=limb carry/\iv=.int .i64 k/\Plus1 w a b w.heap.size n k carry wr) (fun _ iv _=>n - (intOf iv).toNat)
  case atStart=>exact ⟨0,0,Nat.zero_le _,Nat.zero_le _,rfl,rfl,Plus1.start w a b n⟩
  case round =>
   obtain ⟨k,carry,hk,hcy,rfl,rfl,hP⟩:=hrel
   by_cases hlt1:k < n
   ·have hP':=hP
    obtain ⟨out,hblk,hlen,hlt,hz,hI,hB⟩:=hP';have HP:=Za hP;clear hP;have hz:=Za hz;have hI:=Za hI;have hlen:=Za hlen;have hsz:=hblk.lt;obtain ⟨ba,oa,rfl,hca⟩:=(ha.below hB).at_ hlt1;have hxa:=ha.lt.get k;have hcg:=hblk.cell k;rw [Zai out k (by rw [hlen.out];omega),hz.out k (Nat.le_refl _)] at hcg;have hfg:=hblk.frozen k
    by_cases hm1:k < m
    ·obtain ⟨bb,ob,rfl,hcb⟩:=(hb.below hB).at_ hm1
     have hxb:=hb.lt.get k;go_wp2_with (go_at_call 211;refine (Zgn _ _ _ _ hxa hxb hcy).mono ?_;rintro e w' ⟨s,q,rfl,hs,he,rfl⟩;have hE:=Za he;clear he)
     go_roundw
     case rel=>exact ⟨k+1,q,by omega,by have:=hE.out;omega,rfl,by go_num,Plus1.step hblk hlen.out hlt hz.out hI.out hB hlt1 hs hE.out⟩
     case measure=>simp [intOf];omega
    ·have hb0:=Za (getD_none (l:=b) (i:=k) (by rw [hb.len];omega))
     go_wp2_with (go_at_call 211;refine (Zgn _ 0 _ _ hxa (by omega) hcy).mono ?_;rintro e w' ⟨s,q,rfl,hs,he,rfl⟩;have hE:=Za he;clear he)
     go_roundw
     case rel=>exact ⟨k+1,q,by omega,by have:=hE.out;omega,rfl,by go_num,Plus1.step hblk hlen.out hlt hz.out hI.out hB hlt1 hs (by rw [hb0.out];exact hE.out)⟩
     case measure=>simp [intOf];omega
   ·have HF:=Za (HS.out k carry wr hP (by omega) hk hcy)
    obtain ⟨out,hblk,hlen,hlt,hz,hI,hB⟩:=hP;have hcg:=hblk.cell n;rw [Zai out n (by omega),hz n (by omega)] at hcg;have hfg:=hblk.frozen n;have hsz:=hblk.lt;clear hblk hz hI hlen
    go_wp2
    go_ret;exact HF.out
 ·have hlt:m < n:=hsw rfl
  clear hsw hsw' hnm
  have hdd:decide (m < n)=true:=by simp;omega
  show Calls _ _ #[.slice B m d,.slice A n c] _ _;go_enter Tryz.func153,Tryz.ntmps153
  go_wp2
  go_loopw [6,23] (fun cv iv wr=>∃ k carry:Nat,k <= n/\carry <= 1/\cv=limb carry/\iv=.int .i64 k/\Plus1 w a b w.heap.size n k carry wr) (fun _ iv _=>n - (intOf iv).toNat)
  case atStart=>exact ⟨0,0,Nat.zero_le _,Nat.zero_le _,rfl,rfl,Plus1.start w a b n⟩
  case round =>
   obtain ⟨k,carry,hk,hcy,rfl,rfl,hP⟩:=hrel
   by_cases hlt1:k < n
   ·have hP':=hP
    obtain ⟨out,hblk,hlen,hlt,hz,hI,hB⟩:=hP';have HP:=Za hP;clear hP;have hz:=Za hz;have hI:=Za hI;have hlen:=Za hlen;have hsz:=hblk.lt;obtain ⟨ba,oa,rfl,hca⟩:=(ha.below hB).at_ hlt1;have hxa:=ha.lt.get k;have hcg:=hblk.cell k;rw [Zai out k (by rw [hlen.out];omega),hz.out k (Nat.le_refl _)] at hcg;have hfg:=hblk.frozen k
    by_cases hm1:k < m
    ·obtain ⟨bb,ob,rfl,hcb⟩:=(hb.below hB).at_ hm1
     have hxb:=hb.lt.get k;go_wp2_with (go_at_call 211;refine (Zgn _ _ _ _ hxa hxb hcy).mono ?_;rintro e w' ⟨s,q,rfl,hs,he,rfl⟩;have hE:=Za he;clear he)
     go_roundw
     case rel=>exact ⟨k+1,q,by omega,by have:=hE.out;omega,rfl,by go_num,Plus1.step hblk hlen.out hlt hz.out hI.out hB hlt1 hs hE.out⟩
     case measure=>simp [intOf];omega
    ·have hb0:=Za (getD_none (l:=b) (i:=k) (by rw [hb.len];omega))
     go_wp2_with (go_at_call 211;refine (Zgn _ 0 _ _ hxa (by omega) hcy).mono ?_;rintro e w' ⟨s,q,rfl,hs,he,rfl⟩;have hE:=Za he;clear he)
     go_roundw
     case rel=>exact ⟨k+1,q,by omega,by have:=hE.out;omega,rfl,by go_num,Plus1.step hblk hlen.out hlt hz.out hI.out hB hlt1 hs (by rw [hb0.out];exact hE.out)⟩
     case measure=>simp [intOf];omega
   ·have HF:=Za (HS.out k carry wr hP (by omega) hk hcy)
    obtain ⟨out,hblk,hlen,hlt,hz,hI,hB⟩:=hP;have hcg:=hblk.cell n;rw [Zai out n (by omega),hz n (by omega)] at hcg;have hfg:=hblk.frozen n;have hsz:=hblk.lt;clear hblk hz hI hlen
    go_wp2
    go_ret;exact HF.out
theorem Zoi (A B:Option Addr) (n c m d:Nat) (a b:List Nat) (w:World) (ha:Lim w A n c a) (hb:Lim w B m d b) (hn:n <= 1000000000) (hm:m <= 1000000000) :
    Calls Tryz.prog 153 #[.slice A n c,.slice B m d] w (OutL w fun l=>l.length=max n m+1/\val l=val a+val b):=by
 rcases Nat.lt_or_ge n m with h | h
 ·refine (Zn7 true B A m d n c b a w hb ha (fun _=>h) (fun e=>by cases e) hm).mono ?_
  rintro e w' ⟨A',n',c',l,he,hL,hP,hB⟩;exact ⟨A',n',c',l,he,hL,⟨by rw [hP.1,Nat.max_eq_right (Nat.le_of_lt h)],by rw [hP.2,Nat.add_comm]⟩,hB⟩
 ·refine (Zn7 false A B n c m d a b w ha hb (fun e=>by cases e) (fun _=>h) hn).mono ?_
  rintro e w' ⟨A',n',c',l,he,hL,hP,hB⟩;exact ⟨A',n',c',l,he,hL,⟨by rw [hP.1,Nat.max_eq_left h],hP.2⟩,hB⟩
def Minus1 (w:World) (a b:List Nat) (g n k borrow:Nat) (wr:World):Prop:=
 ∃ out,Blk wr g 147 (Zt out)/\out.length=n/\Lt32 out/\(∀ j,k <= j->out[j]?.getD 0=0)/\val out+val (b.take k)=val (a.take k)+pw k * borrow/\Below w.heap.size w wr
theorem Minus1.start (w:World) (a b:List Nat) (n:Nat):Minus1 w a b w.heap.size n 0 0 (w.alloc (.cells (Zt (List.replicate n 0)) 147)):=
 ⟨List.replicate n 0,Blk.new _ _ _,by simp,Lt32.replicate _,fun j _=>Zdf _ _,by simp [Zdt,val],(Below.refl _ _).alloc (Nat.le_refl _) _⟩
theorem Minus1.step {w wr:World} {a b out:List Nat} {n k borrow s q:Nat} (hblk:Blk wr w.heap.size 147 (Zt out)) (hlen:out.length=n) (hlt:Lt32 out) (hz:∀ j,k <= j->out[j]?.getD 0=0)
    (hI:val out+val (b.take k)=val (a.take k)+pw k * borrow) (hB:Below w.heap.size w wr) (hk:k < n) (hs:s < 4294967296) (he:s+b[k]?.getD 0+borrow=a[k]?.getD 0+4294967296 * q) :
    Minus1 w a b w.heap.size n (k+1) q (wr.setCell ⟨w.heap.size,k,none⟩ (limb s)):=
 ⟨out.set k s,by rw [<- Zbq];exact hblk.set_ _ _,by rw [List.length_set];exact hlen,hlt.set _ hs,fun j hj=>by rw [getD_set_ne _ (by omega)];exact hz j (by omega),
  Zph (by omega) (hz k (Nat.le_refl _)) hI he,hB.setCell (p:=⟨w.heap.size,k,none⟩) (Nat.le_refl _) _⟩
theorem Minus1.stop {w wr:World} {a b:List Nat} {n borrow:Nat} (h:Minus1 w a b w.heap.size n n borrow wr) (ha:a.length <= n) (hb:b.length <= n) (hab:val b <= val a) (hn:n <= maxLen) :
    OutL w (fun l=>l.length=n/\val l+val b=val a) (.returned (.slice (some ⟨w.heap.size,0,none⟩) n n)) wr:=by
 obtain ⟨out,hblk,hlen,hlt,-,hI,hB⟩:=h;have hL:=Lim.of_blk hblk hlt (by omega);rw [hlen] at hL;refine ⟨_,_,_,_,rfl,hL,⟨hlen,?_⟩,hB⟩;rw [Zab ha,Zab hb] at hI;have:=Zen hlt;rw [hlen] at this
 rcases Nat.eq_zero_or_pos borrow with h0 | h0
 ·subst h0;omega
 ·have:=Nat.mul_le_mul_left (pw n) h0;omega
theorem Zia (A B:Option Addr) (n c m d:Nat) (a b:List Nat) (w:World) (ha:Lim w A n c a) (hb:Lim w B m d b) (hmn:m <= n) (hab:val b <= val a) (hn:n <= 1000000000) :
    Calls Tryz.prog 202 #[.slice A n c,.slice B m d] w (OutL w fun l=>l.length=n/\val l+val b=val a):=by
 obtain ⟨i0,hi,hz0,hz1,hz2⟩:=info_parts Zco;have hmk:=Zeo (P:=Tryz.prog) 25 147 Tryz.underlying25 hi hz0 hz1 hz2 (n:Int) n rfl (by omega);have hnc:=ha.2.1;have hmd:=hb.2.1;have hcm:=ha.2.2.1;have hdm:=hb.2.2.1
 have hnm:n <= maxLen:=by unfold maxLen;omega
 unfold maxLen at hcm hdm
 have HS:Hid (∀ borrow wr,Minus1 w a b w.heap.size n n borrow wr->OutL w (fun l=>l.length=n/\val l+val b=val a) (.returned (.slice (some ⟨w.heap.size,0,none⟩) n n)) wr):=
  fun borrow wr h=>Minus1.stop h (by rw [ha.len];omega) (by rw [hb.len];omega) hab hnm
 clear hnm hab;go_enter Tryz.func202,Tryz.ntmps202
 go_wp2
 go_loopw [6,15] (fun cv iv wr=>∃ k borrow:Nat,k <= n/\borrow <= 1/\cv=limb borrow/\iv=.int .i64 k/\Minus1 w a b w.heap.size n k borrow wr) (fun _ iv _=>n - (intOf iv).toNat)
 case atStart=>exact ⟨0,0,Nat.zero_le _,Nat.zero_le _,rfl,rfl,Minus1.start w a b n⟩
 case round =>
  obtain ⟨k,borrow,hk,hcy,rfl,rfl,hP⟩:=hrel
  by_cases hlt1:k < n
  ·obtain ⟨out,hblk,hlen,hlt,hz,hI,hB⟩:=hP
   have hz:=Za hz;have hI:=Za hI;have hlen:=Za hlen;have hsz:=hblk.lt;obtain ⟨ba,oa,rfl,hca⟩:=(ha.below hB).at_ hlt1;have hxa:=ha.lt.get k;have hcg:=hblk.cell k;rw [Zai out k (by rw [hlen.out];omega),hz.out k (Nat.le_refl _)] at hcg;have hfg:=hblk.frozen k
   by_cases hm1:k < m
   ·obtain ⟨bb,ob,rfl,hcb⟩:=(hb.below hB).at_ hm1
    have hxb:=hb.lt.get k;go_wp2_with (go_at_call 222;refine (Zgp _ _ _ _ hxa hxb hcy).mono ?_;rintro e w' ⟨s,q,rfl,hs,hq,he,rfl⟩;have hE:=Za he;clear he)
    go_roundw
    case rel=>exact ⟨k+1,q,by omega,hq,rfl,by go_num,Minus1.step hblk hlen.out hlt hz.out hI.out hB hlt1 hs hE.out⟩
    case measure=>simp [intOf];omega
   ·have hb0:=Za (getD_none (l:=b) (i:=k) (by rw [hb.len];omega))
    go_wp2_with (go_at_call 222;refine (Zgp _ 0 _ _ hxa (by omega) hcy).mono ?_;rintro e w' ⟨s,q,rfl,hs,hq,he,rfl⟩;have hE:=Za he;clear he)
    go_roundw
    case rel=>exact ⟨k+1,q,by omega,hq,rfl,by go_num,Minus1.step hblk hlen.out hlt hz.out hI.out hB hlt1 hs (by rw [hb0.out];exact hE.out)⟩
    case measure=>simp [intOf];omega
  ·obtain rfl:k=n:=by omega
   have HF:=Za (HS.out borrow wr hP);clear hP
   go_wp2
   go_ret;exact HF.out
def MutL (w:World) (g off:Nat) (l:List Nat):Prop:=∀ i,i < l.length->w.cell? ⟨g,off+i,none⟩=some (limb (l[i]?.getD 0))/\w.frozen? ⟨g,off+i,none⟩=false
theorem MutL.set_ {w:World} {g off:Nat} {l:List Nat} (h:MutL w g off l) {i:Nat} (hi:i < l.length) (x:Nat):MutL (w.setCell ⟨g,off+i,none⟩ (limb x)) g off (l.set i x):=fun j hj=>by
 rw [List.length_set] at hj;refine ⟨?_,by rw [World.frozen?_setCell];exact (h j hj).2⟩
 by_cases hji:j=i
 ·subst hji
  rw [Ziv _ hi];exact World.cell?_setCell_same _ _ _ (h j hj).1
 ·rw [getD_set_ne _ (fun e=>hji e.symm),World.cell?_setCell_other _ _ _ _ (by intro e;injection e with e1 e2;omega)]
  exact (h j hj).1
theorem Zgb {w w':World} {g o:Nat} {u:Value} (h:w.grownBy w' (some g)):w.grownBy (w'.setCell ⟨g,o,none⟩ u) (some g):=
 ⟨h.os,h.tape,h.output,by simpa using h.size,fun k hk hne=>(Below.heap_setCell w' ⟨g,o,none⟩ u k (fun e=>hne (by rw [e]))).trans (h.block k hk hne)⟩
def SubP (w:World) (g off n q:Nat) (u v:List Nat) (i cy b:Nat) (wr:World):Prop:=
 ∃ l,MutL wr g off l/\l.length=n+1/\Lt32 l/\(∀ j,i <= j->l[j]?.getD 0=u[j]?.getD 0)/\val (l.take i)+q * val (v.take i)=val (u.take i)+pw i * (cy+b)/\w.grownBy wr (some g)
theorem Zok {c x y:Nat} (hc:c < 4294967296) (hx:x < 4294967296) (hy:y < 4294967296) :
    IntKind.u64.wrap ((c:Int)+IntKind.u64.wrap ((x:Int) * y))=((c+x * y:Nat):Int):=by
 have h:x * y <= 4294967295 * 4294967295:=Nat.mul_le_mul (by omega) (by omega)
 have e:(x:Int) * y=((x * y:Nat):Int):=by simp
 rw [e]
 generalize x * y=t at *
 simp only [IntKind.wrap_u64];omega
theorem Zma (g off n c d q:Nat) (B:Option Addr) (u v:List Nat) (w:World) (hu:MutL w g off u) (hul:u.length=n+1) (hut:Lt32 u) (hnc:n+1 <= c) (hcm:c <= maxLen) (hn9:n <= 1000000000)
    (hv:Lim w B n d v) (hB:∀ b o,B=some ⟨b,o,none⟩->b ≠ g) (hq:q < 4294967296) :
    Calls Tryz.prog 224 #[.slice (some ⟨g,off,none⟩) (n+1) c,.slice B n d,.int .u32 q] w fun e w'=>∃ b l,b <= 1/\e=.returned (.bool (decide (b=0)))/\MutL w' g off l/\l.length=n+1/\Lt32 l/\val l+q * val v=val u+pw (n+1) * b/\w.grownBy w' (some g):=by
 unfold maxLen at hcm;have hnd:=hv.2.1;have hdm:=hv.2.2.1;unfold maxLen at hdm;have hvl:=Za hv.len;replace hul:=Za hul;go_enter Tryz.func224,Tryz.ntmps224
 go_wp2
 go_loopw [14,7,8] (fun iv cv bv wr=>∃ i cy b:Nat,i <= n/\iv=.int .i64 i/\cy < 4294967296/\cv=.int .u64 cy/\b <= 1/\bv=limb b/\SubP w g off n q u v i cy b wr) (fun iv _ _ _=>n - (intOf iv).toNat)
 case atStart=>exact ⟨0,0,0,Nat.zero_le _,rfl,by omega,rfl,Nat.zero_le _,rfl,u,hu,hul.out,hut,fun _ _=>rfl,by simp [val],World.grownBy.refl w _⟩
 case round =>
  obtain ⟨i,cy,b,hin,rfl,hcy,rfl,hb1,rfl,l,hl,hll,hlt,hsame,hI,hg⟩:=hrel;replace hll:=Za hll;replace hsame:=Za hsame;replace hI:=Za hI
  by_cases hi:i < n
  ·obtain ⟨bb,ob,rfl,hcb⟩:=hv.at_ hi
   have hbg:=hB bb ob rfl;have hcb':=(World.cell?_of_block (a:=⟨bb,ob+i,none⟩) (hg.block bb (Z0 hcb) (fun e=>hbg (by injection e)))).trans hcb;have hx:=hv.lt.get i;have hy:=hut.get i;obtain ⟨hcu,hfu⟩:=hl i (by rw [hll.out];omega);rw [hsame.out i (Nat.le_refl _)] at hcu
   have hlen9:i < l.length:=by rw [hll.out];omega
   go_wp2_with fail;rw [Zok hcy hq hx,Zjp]
   have htb:cy+q * v[i]?.getD 0 < 18446744073709551616:=by
    have h:q * v[i]?.getD 0 <= 4294967295 * 4294967295:=Nat.mul_le_mul (by omega) (by omega);omega
   obtain ⟨t,ht⟩:∃ t,cy+q * v[i]?.getD 0=t:=⟨_,rfl⟩;rw [ht] at htb ⊢;replace ht:=Za ht;refine (Zgp _ (t % 4294967296) _ _ hy (Nat.mod_lt _ (by decide)) hb1).mono ?_;rintro e w' ⟨dd,kk,rfl,hd,hk,he,rfl⟩;replace he:=Za he;go_wp2_with fail
   go_roundw
   case rel =>
    rw [Zkp];refine ⟨i+1,_,kk,by omega,by go_num,by omega,rfl,hk,rfl,l.set i dd,hl.set_ hlen9 dd,by rw [List.length_set];exact hll.out,hlt.set i hd,fun j hj=>?_,?_,Zgb hg⟩
    ·rw [getD_set_ne _ (by omega)];exact hsame.out j (by omega)
    ·exact Zhs hlen9 hI.out (lo:=t % 4294967296) (by rw [ht.out];omega) (by have:=he.out;omega)
   case measure=>simp [intOf];omega
  ·obtain rfl:i=n:=by omega
   have hy:=hut.get i;obtain ⟨hcu,hfu⟩:=hl i (by rw [hll.out];omega);rw [hsame.out i (Nat.le_refl _)] at hcu
   have hlen9:i < l.length:=by rw [hll.out];omega
   have hcc:((cy:Int)) % 4294967296=(cy:Int):=by omega
   go_wp2_with fail;refine (Zgp _ cy _ _ hy hcy hb1).mono ?_;rintro e w' ⟨dd,kk,rfl,hd,hk,he,rfl⟩
   have hfin:Hid (val (l.set i dd)+q * val v=val u+pw (i+1) * kk):=by
    have h1:=Zhs (v:=v) (q:=q) (lo:=cy) (c:=0) hlen9 hI.out (by rw [getD_none (by rw [hvl.out];exact Nat.le_refl _)];omega) he;rw [Zab (by rw [List.length_set,hll.out];exact Nat.le_refl _),Zab (by rw [hvl.out];omega),Zab (by rw [hul.out];exact Nat.le_refl _),Nat.zero_add] at h1;exact h1
   have hM:=hl.set_ hlen9 dd;have hL:=hlt.set i hd;have hG:=Zgb (o:=off+i) (u:=limb dd) hg
   have hlen2:Hid ((l.set i dd).length=i+1):=by unfold Hid;rw [List.length_set];exact hll.out
   replace he:=Za he;clear hl hlt
   rcases Nat.eq_zero_or_pos kk with rfl | h0
   ·go_wp2_with fail
    go_returns;exact ⟨0,_,by omega,rfl,hM,hlen2.out,hL,hfin.out,hG⟩
   ·obtain rfl:kk=1:=by omega
    go_wp2_with fail;go_returns;exact ⟨1,_,by omega,rfl,hM,hlen2.out,hL,hfin.out,hG⟩
theorem OwnL.mut {t:TypeId} {w:World} {base:Nat} {v:Value} {l:List Nat} (h:OwnL t w base v l) (hn:0 < l.length):∃ g cap,v=.slice (some ⟨g,0,none⟩) l.length cap/\base <= g/\g < w.heap.size/\l.length <= cap/\cap <= maxLen/\MutL w g 0 l:=by
 rcases h.1.2 with ⟨hv,h0⟩ | ⟨g,cap,cur,hv,hg,hh,hnc,hcm,hcs,ht⟩
 ·omega
 ·refine ⟨g,cap,hv,hg,(Array.getElem?_eq_some_iff.1 hh).1,hnc,hcm,fun k hk=>⟨?_,?_⟩⟩
  ·rw [Nat.zero_add,cell_of_row w g k cur t (0,0) hh]
   have h3:(cur.toList.take (l.length * 1))[k]?=(l.map limb)[k]?:=by rw [ht]
   rw [List.getElem?_take,if_pos (by omega),List.getElem?_map,List.getElem?_eq_getElem hk] at h3;rw [List.getElem?_eq_getElem hk]
   simpa using h3
  ·rw [Nat.zero_add]
   unfold World.frozen?;rw [hh]
   simp
def Zp1 (w:World) (l:List Nat) (e:Ending) (w':World):Prop:=
 ∃ v,e=.returned v/\OwnL 147 w' w.heap.size v l/\Below w.heap.size w w'
theorem Zlk (a:Addr) (n c:Nat) (l:List Nat) (w:World) (h:Reads w w.heap.size 1 (some a) n (l.map limb)) (hl:l.length=n) (hlt:Lt32 l) (hn9:n <= 1000000000) (hnc:n <= c) (hcm:c <= maxLen) :
    Calls Tryz.prog 204 #[.slice (some a) n c] w (Zp1 w l):=by
 obtain ⟨i0,hi,hz0,hz1,hz2⟩:=info_parts Zco;unfold maxLen at hcm;replace hl:=Za hl
 have hcmp:∀ W,(binOp BinOp.eql 25 (.slice (some a) n c) (.slice none 0 0)).run Tryz.prog W=.ok (.bool false) W:=fun _=>by kernel_rfl
 go_enter Tryz.func204,Tryz.ntmps204;go_wp2_with (go_loud (at_builtin;refine Zu _ rfl (.tmp 5) (.tmp 6) 25 rfl w.heap.size 147 i0 _ 1 4 Tryz.underlying25 hi hz0 hz1 hz2 rfl (by omega) (.slice (some ⟨w.heap.size,0,none⟩) 0 0) 0 [] rfl (Zio _ _ _) _ (some a) n c (l.map limb) rfl (by exact h.alloc (Nat.le_refl _) _) (Zc2 _) (by simp only [maxLen];omega) (by omega) (by simp) ?_;intro v1 w1 hown1 hg1 hat1));go_ret;have h2:OwnL 147 w1 w.heap.size v1 ([] ++ l):=OwnL.append (l:=[]) rfl hl.out.symm hown1 Lt32.nil hlt;exact ⟨v1,rfl,h2,((Below.refl _ _).alloc (Nat.le_refl _) _).grown hg1 (by simp) (fun j hj=>by simp [Value.ownBlock] at hj;omega)⟩
theorem Zpl (c:Nat) (w:World):Calls Tryz.prog 204 #[.slice none 0 c] w (Zp1 w []):=by
 have hcmp:∀ W,(binOp BinOp.eql 25 (.slice none 0 c) (.slice none 0 0)).run Tryz.prog W=.ok (.bool true) W:=fun _=>by kernel_rfl
 go_enter Tryz.func204,Tryz.ntmps204
 go_wp2
 go_ret;exact ⟨_,rfl,OwnL.nil _ _ _,Below.refl _ _⟩
theorem Zgg (A:Option Addr) (n c:Nat) (l:List Nat) (w:World) (h:Lim w A n c l) (hn9:n <= 1000000000) :
    Calls Tryz.prog 204 #[.slice A n c] w (Zp1 w l):=by
 rcases A with _ | a
 ·have hn:n=0:=by
    rcases Nat.eq_zero_or_pos n with h0 | h0
    ·exact h0
    ·obtain ⟨b,o,e,_⟩:=h.2.2.2.2 h0
     cases e
  subst hn;obtain rfl:l=[]:=List.eq_nil_of_length_eq_zero h.len;exact Zpl c w
 ·exact Zlk a n c l w h.reads h.len h.lt hn9 h.2.1 h.2.2.1
theorem Zl1 (x y d:Nat) (w:World) (hx:x < d) (hy:y < 4294967296) (hd:d < 4294967296) :
    Calls Tryz.prog 223 #[limb x,limb y,limb d] w fun e w'=>e=.returned (.tuple #[limb ((x * 4294967296+y) / d),limb ((x * 4294967296+y) % d)])/\w'=w.drew:=by
 have d1:((d:Int) == 0)=false:=by simp;omega
 have d2:decide ((d:Int) <= (x:Int))=false:=by simp;omega
 have d3:(d:Int) ≠ 0:=by omega
 have d2':decide (d <= x)=false:=by simp;omega
 obtain ⟨t,ht⟩:∃ t,x * 4294967296+y=t:=⟨_,rfl⟩
 have hor:bits .or .u64 ((x:Int) * 4294967296) (y:Int)=(t:Int):=by
  have h1:((x:Int) * 4294967296)=((4294967296 * x:Nat):Int):=by omega
  rw [h1,u64_or_nat _ _ (by omega) (by omega)];have h2:=Nat.two_pow_add_eq_or_of_lt (i:=32) (b:=y) (by omega) x;rw [show (2:Nat) ^ 32=4294967296 by rfl] at h2;rw [<- h2];omega
 have hq:t / d < 4294967296:=by rw [Nat.div_lt_iff_lt_mul (by omega)];have:=Nat.mul_le_mul_left 4294967296 (show x+1 <= d by omega);omega
 have hr:t % d < d:=Nat.mod_lt _ (by omega)
 have htb:t < 18446744073709551616:=by omega
 rw [ht];replace ht:=Za ht;go_enter Tryz.func223,Tryz.ntmps223;go_wp2_with fail
 go_region
 have e1:IntKind.u64.wrap ((t:Int) / (d:Int)) % 4294967296=((t / d:Nat):Int):=by
  rw [show (t:Int) / (d:Int)=((t / d:Nat):Int) from rfl]
  generalize t / d=z at *
  simp only [IntKind.wrap_u64];omega
 go_wp2_with fail
 go_ret2
 exact ⟨Zg3 e1 rfl,rfl⟩
theorem Zbj {l:List Nat} {k:Nat} (h:k < l.length):val (l.drop k)=l[k]?.getD 0+4294967296 * val (l.drop (k+1)):=by
 rw [List.drop_eq_getElem_cons h,val,List.getElem?_eq_getElem h];rfl
theorem Zmd {U V q R:Nat} (h:R+q * V=U) (hR:R < V):q=U / V/\R=U % V:=by
 subst h
 have hV:0 < V:=by omega
 constructor
 ·rw [Nat.add_mul_div_right _ _ hV,Nat.div_eq_of_lt hR,Nat.zero_add]
 ·rw [Nat.add_mul_mod_self_right,Nat.mod_eq_of_lt hR]
theorem Zlo {U V q W:Nat} (hV:0 < V) (h:W+q * V=U) (hq:U / V <= q):q=U / V/\W=U % V:=by
 have h1:q <= U / V:=by rw [Nat.le_div_iff_mul_le hV];omega
 have h2:q=U / V:=by omega
 refine ⟨h2,?_⟩;have h3:=Nat.div_add_mod U V;rw [<- h2,Nat.mul_comm V q] at h3;omega
theorem Zkg {U V q W M:Nat} (hV:0 < V) (h:W+q * V=U+M) (hW:W < M):U / V < q:=by
 rw [Nat.div_lt_iff_lt_mul hV];omega
theorem Zlc {out l:List Nat} {k D r q r':Nat} (ho:k < out.length) (hl:k < l.length) (hI:val (out.drop (k+1)) * D+r=val (l.drop (k+1))) (he:q * D+r'=r * 4294967296+l[k]?.getD 0) :
    val ((out.set k q).drop k) * D+r'=val (l.drop k):=by
 rw [Zbj (l:=out.set k q) (by rw [List.length_set];exact ho),Ziv _ ho,List.drop_set_of_lt (by omega),Zbj hl,Nat.add_mul,<- hI,Nat.mul_add,Nat.mul_assoc];omega
theorem Ztq {r:List Nat} {i s:Nat} (hs:s <= 32) (hi:i < r.length) (hlt:Lt32 r) :
    val (r.drop i) / 2 ^ s=(r[i]?.getD 0+4294967296 * r[i+1]?.getD 0) / 2 ^ s % 4294967296+4294967296 * (val (r.drop (i+1)) / 2 ^ s):=by
 have hp:0 < 2 ^ s:=Nat.pow_pos (by omega);have e1:val (r.drop i)=r[i]?.getD 0+4294967296 * val (r.drop (i+1)):=Zbj hi
 obtain ⟨t,e2⟩:∃ t,val (r.drop (i+1))=r[i+1]?.getD 0+4294967296 * t:=by
  rcases Nat.lt_or_ge (i+1) r.length with h | h
  ·exact ⟨_,Zbj h⟩
  ·exact ⟨0,by rw [List.drop_of_length_le h,getD_none h];rfl⟩
 have hx:=hlt.get i
 have hq:(4294967296:Nat)=2 ^ s * 2 ^ (32 - s):=by rw [<- Nat.pow_add,show s+(32 - s)=32 by omega]
 have hb:4294967296 * (val (r.drop (i+1)) / 2 ^ s)=4294967296 * (val (r.drop i) / 2 ^ s / 4294967296):=by
  congr 1
  rw [Nat.div_div_eq_div_mul,Nat.mul_comm (2 ^ s),<- Nat.div_div_eq_div_mul,e1]
  congr 1
  omega
 have ha:(r[i]?.getD 0+4294967296 * r[i+1]?.getD 0) / 2 ^ s % 4294967296=val (r.drop i) / 2 ^ s % 4294967296:=by
  rw [e1,e2]
  have:r[i]?.getD 0+4294967296 * (r[i+1]?.getD 0+4294967296 * t)=(r[i]?.getD 0+4294967296 * r[i+1]?.getD 0)+2 ^ s * (2 ^ (32 - s) * t * 4294967296):=by
   have:2 ^ s * (2 ^ (32 - s) * t * 4294967296)=(2 ^ s * 2 ^ (32 - s)) * t * 4294967296:=by grind
   rw [this,<- hq];omega
  rw [this,Nat.add_mul_div_left _ _ hp,Nat.add_mul_mod_self_right]
 rw [ha,hb];omega
def splice (u:List Nat) (k:Nat) (l:List Nat):List Nat:=u.take k ++ l ++ u.drop (k+l.length)
theorem Zdu {u l:List Nat} {k:Nat} (h:k+l.length <= u.length):(splice u k l).length=u.length:=by
 unfold splice;simp;omega
theorem Zss {u l:List Nat} {k:Nat} (hu:Lt32 u) (hl:Lt32 l):Lt32 (splice u k l):=((hu.take _).append hl).append (hu.drop _)
theorem Zla {u l:List Nat} {k i:Nat} (h:k+l.length <= u.length) (hi:i < l.length):(splice u k l)[k+i]?.getD 0=l[i]?.getD 0:=by
 unfold splice;rw [List.getElem?_append_left (by simp;omega),List.getElem?_append_right (by simp;omega),List.length_take,Nat.min_eq_left (by omega),show k+i - k=i by omega]
theorem Zkd {u l:List Nat} {k j:Nat} (h:k+l.length <= u.length) (hj:j < k \/ k+l.length <= j):(splice u k l)[j]?.getD 0=u[j]?.getD 0:=by
 unfold splice
 rcases hj with hj | hj
 ·rw [List.append_assoc,List.getElem?_append_left (by simp;omega),List.getElem?_take,if_pos hj]
 ·rw [List.getElem?_append_right (by simp;omega),List.getElem?_drop]
  congr 2
  simp;omega
def DivI (A V n:Nat) (u q:List Nat) (j:Nat):Prop:=
 Lt32 u/\Lt32 q/\u.length=q.length+n/\j <= q.length/\val u+V * val q=A/\val (u.drop j) < V/\∀ i,i < j->q[i]?.getD 0=0
theorem DivI.win {A V n:Nat} {u q:List Nat} {k:Nat} (h:DivI A V n u q (k+1)) (hV:V <= pw n):val ((u.drop k).take (n+1))=val (u.drop k)/\val (u.drop k) < 4294967296 * V:=by
 obtain ⟨h1,h2,h3,h4,h5,h6,h7⟩:=h;have e:=Zbj (l:=u) (k:=k) (by omega);have hx:=h1.get k
 have hlt:val (u.drop k) < 4294967296 * V:=by omega
 refine ⟨?_,hlt⟩;have e2:=Zac (u.drop k) (n+1) (by simp;omega)
 rcases Nat.eq_zero_or_pos (val ((u.drop k).drop (n+1))) with h0 | h0
 ·rw [h0] at e2;omega
 ·have:=Nat.mul_le_mul_left (pw (n+1)) h0
  rw [Zaq] at this e2;have:=Nat.mul_le_mul_left 4294967296 hV;omega
theorem DivI.step {A V n:Nat} {u q l:List Nat} {k Q:Nat} (h:DivI A V n u q (k+1)) (hV:V <= pw n) (hll:l.length=n+1) (hl:Lt32 l) (hQ:Q < 4294967296)
    (hq:Q=val ((u.drop k).take (n+1)) / V) (hr:val l=val ((u.drop k).take (n+1)) % V):DivI A V n (splice u k l) (q.set k Q) k:=by
 obtain ⟨hw,hlt⟩:=h.win hV;obtain ⟨h1,h2,h3,h4,h5,h6,h7⟩:=h
 have hV0:0 < V:=by omega
 have hk:k+l.length <= u.length:=by omega
 have ed:(splice u k l).drop k=l ++ u.drop (k+l.length):=by
  unfold splice;rw [List.append_assoc,List.drop_append_of_le_length (by simp;omega),List.drop_of_length_le (by simp;omega),List.nil_append]
 have e0:val (u.drop (k+l.length))=0:=by
  have e2:=Zac (u.drop k) (n+1) (by simp;omega);rw [hw,List.drop_drop,<- hll] at e2
  rcases Nat.eq_zero_or_pos (val (u.drop (k+l.length))) with h0 | h0
  ·exact h0
  ·have:=Nat.mul_le_mul_left (pw l.length) h0
   have:=Zb2 l.length;omega
 have hvd:val ((splice u k l).drop k)=val l:=by rw [ed,Zfk,e0];omega
 refine ⟨Zss h1 hl,h2.set k hQ,by rw [Zdu hk,List.length_set];exact h3,by rw [List.length_set];omega,?_,by rw [hvd,hr];exact Nat.mod_lt _ hV0,fun i hi=>by rw [getD_set_ne _ (by omega)];exact h7 i (by omega)⟩;have e3:=Zac (splice u k l) k (by rw [Zdu hk];omega);have e4:=Zac u k (by omega)
 have e5:(splice u k l).take k=u.take k:=by
  unfold splice;rw [List.append_assoc,List.take_append_of_le_length (by simp;omega),List.take_of_length_le (by simp;omega)]
 have e6:=Zgf (l:=q) (k:=k) (by omega) Q;rw [h7 k (by omega),Nat.mul_zero,Nat.add_zero] at e6;have e7:=Nat.div_add_mod (val ((u.drop k).take (n+1))) V;rw [<- hq,<- hr,hw] at e7;rw [e3,e5,hvd,e6,Nat.mul_add];rw [e4,<- e7,Nat.mul_add] at h5
 have:V * (pw k * Q)=pw k * (V * Q):=by grind
 omega
theorem DivI.start {a b:List Nat} {u:List Nat} {s n:Nat} (hu:val u=2 ^ s * val a) (hul:u.length=a.length+1) (hult:Lt32 u) (hn:n <= a.length) (halt:Lt32 a) (hb:pw (n - 1) <= val b) (hn0:0 < n) :
    DivI (2 ^ s * val a) (2 ^ s * val b) n u (List.replicate (a.length+1 - n) 0) (a.length+1 - n):=by
 refine ⟨hult,Lt32.replicate _,by simp;omega,by simp,by rw [Zdt,hu];simp,?_,fun i _=>Zdf _ _⟩;have e1:=Zac u (a.length+1 - n) (by omega);have e2:=Zen halt
 have e3:pw a.length=pw (a.length+1 - n) * pw (n - 1):=by rw [<- Zci];congr 1;omega
 have hp:0 < 2 ^ s:=Nat.pow_pos (by omega);have e4:2 ^ s * val a < 2 ^ s * pw a.length:=Nat.mul_lt_mul_of_pos_left e2 hp;have e5:2 ^ s * pw (n - 1) <= 2 ^ s * val b:=Nat.mul_le_mul_left _ hb
 have e6:pw (a.length+1 - n) * val (u.drop (a.length+1 - n)) < pw (a.length+1 - n) * (2 ^ s * pw (n - 1)):=by
  have:pw (a.length+1 - n) * (2 ^ s * pw (n - 1))=2 ^ s * pw a.length:=by rw [e3];grind
  omega
 have:=Nat.lt_of_mul_lt_mul_left e6;omega
theorem DivI.stop {a b:Nat} {u q:List Nat} {s n:Nat} (h:DivI (2 ^ s * a) (2 ^ s * b) n u q 0):val q=a / b/\val u=2 ^ s * (a % b):=by
 obtain ⟨h1,h2,h3,h4,h5,h6,h7⟩:=h;rw [List.drop_zero] at h6;have hp:0 < 2 ^ s:=Nat.pow_pos (by omega);obtain ⟨e1,e2⟩:=Zmd (U:=2 ^ s * a) (V:=2 ^ s * b) (q:=val q) (R:=val u) (by rw [Nat.mul_comm (val q)];exact h5) h6;rw [Nat.mul_div_mul_left _ _ hp] at e1;rw [Nat.mul_mod_mul_left] at e2;exact ⟨e1,e2⟩
theorem Zdk {v:Nat} (h:0 < (digits v).length):(digits v)[(digits v).length - 1]?.getD 0 ≠ 0:=by
 intro h0;have h1:=Zfx v;rw [List.getLast?_eq_getElem?] at h1;rw [List.getElem?_eq_getElem (by omega)] at h1 h0
 simp at h0
 rw [h0] at h1;exact h1 rfl
theorem Zmn {v:List Nat} {n:Nat} (hn:v.length=n) (h0:0 < n):v[n - 1]?.getD 0 * pw (n - 1) <= val v:=by
 have e:=Zac v (n - 1) (by omega);rw [Zbj (by omega)] at e;rw [Nat.mul_add] at e;rw [Nat.mul_comm];omega
theorem Zqz {u:List Nat} {n:Nat} (hn:u.length=n+1) (h0:0 < n) (hlt:Lt32 u):val u < (u[n]?.getD 0 * 4294967296+u[n - 1]?.getD 0+1) * pw (n - 1):=by
 have e:=Zac u (n - 1) (by omega);rw [Zbj (by omega),show n - 1+1=n by omega,Zbj (by omega),List.drop_of_length_le (by omega)] at e;have h1:=Zen (hlt.take (n - 1));rw [List.length_take,Nat.min_eq_left (by omega)] at h1;rw [e];simp only [val]
 have:(u[n]?.getD 0 * 4294967296+u[n - 1]?.getD 0+1) * pw (n - 1)=pw (n - 1) * (u[n - 1]?.getD 0+4294967296 * (u[n]?.getD 0+4294967296 * 0))+pw (n - 1):=by grind
 omega
theorem top2_le {v:List Nat} {n:Nat} (hn:v.length=n) (h0:1 < n):(v[n - 1]?.getD 0 * 4294967296+v[n - 2]?.getD 0) * pw (n - 2) <= val v:=by
 have e:=Zac v (n - 2) (by omega);rw [Zbj (by omega),show n - 2+1=n - 1 by omega,Zbj (by omega)] at e
 have:(v[n - 1]?.getD 0 * 4294967296+v[n - 2]?.getD 0) * pw (n - 2) <= pw (n - 2) * (v[n - 2]?.getD 0+4294967296 * (v[n - 1]?.getD 0+4294967296 * val (v.drop (n - 1+1)))):=by
  rw [Nat.mul_comm];exact Nat.mul_le_mul_left _ (by omega)
 omega
theorem top3_lt {u:List Nat} {n:Nat} (hn:u.length=n+1) (h0:1 < n) (hlt:Lt32 u):val u < ((u[n]?.getD 0 * 4294967296+u[n - 1]?.getD 0) * 4294967296+u[n - 2]?.getD 0+1) * pw (n - 2):=by
 have e:=Zac u (n - 2) (by omega);rw [Zbj (by omega),show n - 2+1=n - 1 by omega,Zbj (by omega),show n - 1+1=n by omega,Zbj (by omega),List.drop_of_length_le (by omega)] at e;have h1:=Zen (hlt.take (n - 2));rw [List.length_take,Nat.min_eq_left (by omega)] at h1;rw [e];simp only [val]
 have:((u[n]?.getD 0 * 4294967296+u[n - 1]?.getD 0) * 4294967296+u[n - 2]?.getD 0+1) * pw (n - 2)=pw (n - 2) * (u[n - 2]?.getD 0+4294967296 * (u[n - 1]?.getD 0+4294967296 * (u[n]?.getD 0+4294967296 * 0)))+pw (n - 2):=by grind
 omega
theorem MutL.reads {w:World} {g off:Nat} {l:List Nat} (h:MutL w g off l):Reads w w.heap.size 1 (some ⟨g,off,none⟩) l.length (l.map limb):=
 ⟨by simp,fun hn=>⟨_,rfl,by have:=Z0 (h 0 hn).1;exact this,fun j u hu=>by
  rw [Zf]
  have hj:j < l.length:=by
   rcases Nat.lt_or_ge j l.length with h' | h'
   ·exact h'
   ·rw [List.getElem?_eq_none (by simpa using h')] at hu;cases hu
  rw [(h j hj).1];rw [List.getElem?_map,List.getElem?_eq_getElem hj] at hu;rw [List.getElem?_eq_getElem hj]
  simpa using hu⟩⟩
theorem MutL.below {w w':World} {g off:Nat} {l:List Nat} (h:MutL w g off l) (hb:Below w.heap.size w w'):MutL w' g off l:=fun j hj =>
 ⟨Zb hb (h j hj).1,Zk hb (h j hj).1 (h j hj).2⟩
theorem MutL.win {w:World} {g off:Nat} {l:List Nat} (h:MutL w g off l) {k n:Nat} (hk:k+n <= l.length):MutL w g (off+k) ((l.drop k).take n):=fun j hj=>by
 rw [List.length_take,List.length_drop] at hj;have:=h (k+j) (by omega);rw [List.getElem?_take,if_pos (by omega),List.getElem?_drop,Nat.add_assoc];exact this
theorem MutL.splice {w:World} {g:Nat} {u l:List Nat} {k:Nat} (h:MutL w g 0 u) (hk:k+l.length <= u.length):MutL (w.setCells g k (l.map limb)) g 0 (splice u k l):=fun j hj=>by
 rw [Zdu hk] at hj;obtain ⟨h1,h2⟩:=h j hj;rw [Nat.zero_add] at h1 h2 ⊢;refine ⟨?_,by rw [World.frozen?_setCells];exact h2⟩
 by_cases hin:k <= j/\j < k+l.length
 ·obtain ⟨i,rfl⟩:∃ i,j=k+i:=⟨j - k,by omega⟩
  rw [Zla hk (by omega)]
  have:=World.cell?_setCells_in g (l.map limb) k w (fun i hi=>by
   rw [List.length_map] at hi;have:=(h (k+i) (by omega)).1;rw [Nat.zero_add] at this
   rw [this];rfl) i (by rw [List.length_map];omega)
  rw [this]
  simp [List.getElem?_eq_getElem (show i < l.length by omega)]
 ·rw [Zkd hk (by omega),World.cell?_setCells_out g _ k w _ (fun _ _=>by rw [List.length_map];simp only [];omega)]
  exact h1
theorem Zrw {P:Program} {f:FuncId} {args:Array Value} {w:World} {a n:Nat} {v:Value}
    (h:Calls P f args (w.drewN (a+n)) fun e w'=>e=.returned v/\∃ m,w'=(w.drewN (a+n)).drewN m) :
    Calls P f args (w.drewN (a+n)) fun e w''=>e=.returned v/\∃ m,w''=w.drewN (a+m):=
 h.mono fun _ _ ⟨he,m,hm⟩=>⟨he,n+m,by rw [hm,World.drewN_drewN,Nat.add_assoc]⟩
theorem div32_q (x y d:Nat) (w:World) (hx:x < d) (hy:y < 4294967296) (hd:d < 4294967296) :
    Calls Tryz.prog 223 #[limb x,limb y,limb d] w fun e w'=>e=.returned (.tuple #[limb ((x * 4294967296+y) / d),limb ((x * 4294967296+y) % d)])/\∃ m,w'=w.drewN m:=
 (Zl1 x y d w hx hy hd).mono fun _ _ ⟨he,hm⟩=>⟨he,1,hm⟩
def StepP (w:World) (g off:Nat) (u v:List Nat) (e:Ending) (w':World):Prop:=
 ∃ l w1,e=.returned (limb (val u / val v))/\l.length=u.length/\Lt32 l/\val l=val u % val v/\Below w.heap.size w w1/\w'=w1.setCells g off (l.map limb)
theorem Zti (g off n c d:Nat) (B:Option Addr) (u v:List Nat) (w:World) (hu:MutL w g off u) (hul:u.length=n+1) (hut:Lt32 u) (hnc:n+1 <= c) (hcm:c <= maxLen) (hn9:n <= 1000000) (hn0:0 < n)
    (hv:Lim w B n d v) (hlt:val u < 4294967296 * val v) (htop:v[n - 1]?.getD 0 ≠ 0) :
    Calls Tryz.prog 207 #[.slice (some ⟨g,off,none⟩) (n+1) c,.slice B n d] w (StepP w g off u v):=by
 unfold maxLen at hcm;have hnd:=hv.2.1;have hdm:=hv.2.2.1;unfold maxLen at hdm;have hvl:=hv.len;obtain ⟨bv,ov,rfl,hcv⟩:=hv.at_ (k:=n - 1) (by omega)
 have hV:0 < val v:=by
  rcases Nat.eq_zero_or_pos (val v) with h0 | h0
  ·rw [h0] at hlt;omega
  ·exact h0
 obtain ⟨q,hq⟩:∃ q,val u / val v=q:=⟨_,rfl⟩
 have hqlt:q < 4294967296:=by rw [<- hq,Nat.div_lt_iff_lt_mul hV];exact hlt
 have hun:=hut.get n;have hun1:=hut.get (n - 1);have hvn:=hv.lt.get (n - 1);have hcu:=hu n (by omega);have hcu1:=hu (n - 1) (by omega)
 have hguess:u[n]?.getD 0 < v[n - 1]?.getD 0->q <= (u[n]?.getD 0 * 4294967296+u[n - 1]?.getD 0) / v[n - 1]?.getD 0:=fun _=>by
  rw [<- hq];exact Zly (by omega) (Zmn hvl hn0) (Zqz hul hn0 hut)
 have hglt:u[n]?.getD 0 < v[n - 1]?.getD 0->(u[n]?.getD 0 * 4294967296+u[n - 1]?.getD 0) / v[n - 1]?.getD 0 < 4294967296:=fun h=>by
  rw [Nat.div_lt_iff_lt_mul (by omega)];have:=Nat.mul_le_mul_left 4294967296 (show u[n]?.getD 0+1 <= v[n - 1]?.getD 0 by omega);omega
 have HQ:=Za hq;have hfull:=Za hul;have hvl':=Za hvl;clear hq hul hvl;have hfz:=hcu.1;have hfz1:=hcu1.1;obtain ⟨x,hx⟩:∃ x,u[n]?.getD 0=x:=⟨_,rfl⟩;obtain ⟨y,hy⟩:∃ y,u[n - 1]?.getD 0=y:=⟨_,rfl⟩;obtain ⟨z,hz⟩:∃ z,v[n - 1]?.getD 0=z:=⟨_,rfl⟩;rw [hx] at hun hfz;rw [hy] at hun1 hfz1;rw [hz] at hvn hcv htop;rw [hx,hy,hz] at hguess hglt;clear hx hy hz hcu hcu1
 by_cases hc:x < z
 all_goals
  first
  | (have hc':decide (x < z)=true:=by simpa using hc)
  | (have hc':decide (x < z)=false:=by simpa using hc)
  go_enter Tryz.func207,Tryz.ntmps207;go_wp2_with fail
  go_quiet (fail)
  go_wp2_with fail
  first
  | (go_quiet ((go_at_call 223;exact Zrw (div32_q _ _ _ _ hc hun1 hvn))))
  | skip
  go_wp2_with fail
  go_loopw [6] (fun gv wr=>∃ gs:Nat,gv=limb gs/\q <= gs/\gs < 4294967296/\Below w.heap.size w wr) (fun gv _=>(intOf gv).toNat)
  case atStart=>first | exact ⟨_,rfl,hguess hc,hglt hc,Zi (Zi (Below.refl _ _) _) _⟩ | exact ⟨4294967295,rfl,by omega,by omega,Zi (Below.refl _ _) _⟩
  case round =>
   obtain ⟨gs,rfl,hg1,hg2,hB⟩:=hrel;clear hguess hglt hfz hfz1;have huM:=hu.below hB;have hvL:=hv.below hB;have hbv:bv < wr.heap.size:=Nat.lt_of_lt_of_le (Z0 hcv) hB.size;have hgw:g < wr.heap.size:=Nat.lt_of_lt_of_le (Z0 (hu 0 (by rw [hfull.out];omega)).1) hB.size
   have hrd:Reads wr wr.heap.size 1 (some ⟨g,off,none⟩) (n+1) (u.map limb):=by have:=huM.reads;rw [hfull.out] at this;exact this
   go_wp2_with fail;refine (Zlk ⟨g,off,none⟩ (n+1) c u _ hrd hfull.out hut (by omega) hnc (by unfold maxLen;omega)).mono ?_;rintro e w1 ⟨v1,rfl,hown,hb1⟩;obtain ⟨g1,cap1,hv1,hg1',hg1s,hl1,hc1,hM1⟩:=hown.mut (by rw [hfull.out];omega);rw [hfull.out] at hv1 hl1;subst hv1;go_wp2_with fail;refine (Zma g1 0 n cap1 d gs (some ⟨bv,ov,none⟩) u v _ hM1 hfull.out hut hl1 hc1 (by omega) (hvL.below hb1) (fun b o e=>by injection e with e;injection e with e1 e2;omega) hg2).mono ?_;rintro e w2 ⟨b,l,hb01,rfl,hM2,hll,hlt2,hI,hgr⟩;have hB2:Below w.heap.size w w2:=(hB.trans (hb1.mono hB.size)).grown hgr (by have:=hb1.size;have:=hB.size;omega) (fun j hj=>by injection hj with hj;have:=hB.size;omega)
   rcases Nat.eq_zero_or_pos b with rfl | hb0
   ·obtain ⟨hit1,hit2⟩:=Zlo (U:=val u) (q:=gs) (W:=val l) hV (by rw [Nat.mul_zero] at hI;exact hI) (by rw [HQ.out];exact hg1)
    have hcopy:∀ ty,(Builtin.copy_ #[25,25] ty #[.slice (some ⟨g,off,none⟩) (n+1) c,.slice (some ⟨g1,0,none⟩) (n+1) cap1]).run Tryz.prog w2=.ok (goInt ((n+1:Nat):Int)) (w2.setCells g off (l.map limb)):=fun ty=>by
     obtain ⟨i0,hi,hz0,hz1,hz2⟩:=info_parts Zco
     have h:=run_copy_cells (P:=Tryz.prog) w2 25 25 ty 147 g off (n+1) c ⟨g1,0,none⟩ (n+1) cap1 (l.map limb) Tryz.underlying25 (by rw [hi];simp [hz1]) (by rw [List.length_map,hll];exact (Nat.min_self _).symm)
      (fun j x hx=>by
       have hj:j < l.length:=by
        rcases Nat.lt_or_ge j l.length with h' | h'
        ·exact h'
        ·rw [List.getElem?_eq_none (by simpa using h')] at hx;cases hx
       rw [Zf,(hM2 j hj).1];rw [List.getElem?_map,List.getElem?_eq_getElem hj] at hx;rw [List.getElem?_eq_getElem hj]
       simpa using hx)
      (fun j hj=>by
       rw [List.length_map,hll] at hj;have h3:=(huM j (by rw [hfull.out];exact hj)).1;have h4:=Zb hb1 h3
       rw [(World.cell?_of_block (a:=⟨g,off+j,none⟩) (hgr.block g (by have:=hb1.size;omega) (fun e=>by injection e with e;omega))),h4];rfl)
      (fun j hj=>by
       rw [List.length_map,hll] at hj;have h3:=huM j (by rw [hfull.out];exact hj);have h4:=Zk hb1 h3.1 h3.2
       rw [(World.frozen?_of_block (a:=⟨g,off+j,none⟩) (hgr.block g (by have:=hb1.size;omega) (fun e=>by injection e with e;omega))),h4])
      (Zc2 l)
     rw [List.length_map,hll] at h;exact h
    have hP:StepP w g off u v (.returned (limb gs)) (w2.setCells g off (l.map limb)):=⟨l,w2,by rw [hit1],by rw [hll,hfull.out],hlt2,hit2,hB2,rfl⟩;replace hP:=Za hP;clear hit1 hit2 hI hll;go_wp2_with fail;go_ret;exact hP.out
   ·obtain rfl:b=1:=by omega
    have hmiss:q < gs:=by
     have:=Zkg (q:=gs) (W:=val l) (M:=pw (n+1)) hV (by rw [Nat.mul_one] at hI;exact hI) (by have:=Zen hlt2;rw [hll] at this;exact this);rw [HQ.out] at this;exact this
    clear hI hll;go_wp2_with fail
    go_roundw
    case rel=>exact ⟨gs - 1,by go_num,by omega,by omega,hB2⟩
    case measure=>simp [intOf];omega
open Go.RowKit Go.Shelf
attribute [local go_sem] Oper.semAt_some
def Zct (n:Nat):Nat->List { i:Nat // i < n }
 | 0=>[]
 | k+1=>Zct n k ++ (if h:k < n then [⟨n - 1 - k,by omega⟩] else [])
theorem Zda {n k:Nat} (h:k < n):Zct n (k+1)=Zct n k ++ [⟨n - 1 - k,by omega⟩]:=by simp [Zct,h]
theorem Zc3 {n k:Nat} (h:k <= n):(Zct n k).length=k:=by
 induction k with
 | zero=>rfl
 | succ k ih=>rw [Zda (by omega)];simp [ih (by omega)]
theorem Zj4 {n k:Nat} (h:k <= n) (i:{ i:Nat // i < n }):i ∈ Zct n k ↔ n - k <= i.1:=by
 induction k with
 | zero=>simp [Zct];omega
 | succ k ih =>
  have:=i.2;rw [Zda (by omega),List.mem_append,ih (by omega),List.mem_singleton,Subtype.ext_iff]
  simp;omega
def Zgr (l:List Nat) (n:Nat) (i:{ i:Nat // i < n }):Array Value:=#[.int .i64 (i.1:Int),limb (l[i.1]?.getD 0)]
theorem Zjb {W W':World} {row:Option Nat} {A:Option Addr} {n c:Nat} {l:List Nat} (h:Lim W A n c l) (hg:W.grownBy W' row) (hrow:∀ r,row=some r->∃ o:Obj,W.heap[r]?=some o/\o.isCells=false):Lim W' A n c l:=
 ⟨h.1,h.2.1,h.2.2.1,h.2.2.2.1,fun hn=>by
  obtain ⟨b,o,e,hc⟩:=h.2.2.2.2 hn
  exact ⟨b,o,e,fun k hk=>cell_kept (hc k hk) hg hrow⟩⟩
def KpD (Bs:Nat) (A:Option Addr) (n c:Nat) (l:List Nat) (W W':World):Prop:=
 (W.cell? ⟨Bs,0,none⟩=some (.slice A n c)->W'.cell? ⟨Bs,0,none⟩=some (.slice A n c))/\(Lim W A n c l->Lim W' A n c l)
theorem KpD.refl (Bs:Nat) (A:Option Addr) (n c:Nat) (l:List Nat) (W:World):KpD Bs A n c l W W:=⟨id,id⟩
theorem KpD.trans {Bs n c:Nat} {A:Option Addr} {l:List Nat} {W1 W2 W3:World} (h:KpD Bs A n c l W1 W2) (k:KpD Bs A n c l W2 W3):KpD Bs A n c l W1 W3:=⟨fun x=>k.1 (h.1 x),fun x=>k.2 (h.2 x)⟩
theorem KpD.put {Bs n c:Nat} {A:Option Addr} {l:List Nat} (W:World) (lp:Nat) (o o':Obj) (ho:W.heap[lp]?=some o) (hc:o.isCells=false):KpD Bs A n c l W (W.putObj lp o'):=
 ⟨fun h=>cell_kept h (grownBy_putObj' W lp o') (fun r e=>by cases e;exact ⟨o,ho,hc⟩),fun h=>Zjb h (grownBy_putObj' W lp o') (fun r e=>by cases e;exact ⟨o,ho,hc⟩)⟩
theorem KpD.set_ {Bs n c:Nat} {A:Option Addr} {l:List Nat} {w W:World} {g o:Nat} (hL:Lim w A n c l) (hg:w.heap.size <= g) (hB:g ≠ Bs) (u:Value):KpD Bs A n c l W (W.setCell ⟨g,o,none⟩ u):=
 ⟨fun h=>(World.cell?_setCell_other W _ _ u (fun e=>hB (by cases e;rfl))).trans h,fun h=>⟨h.1,h.2.1,h.2.2.1,h.2.2.2.1,fun hn=>by
  obtain ⟨b,o',e,hc⟩:=h.2.2.2.2 hn;obtain ⟨b1,o1,e1,hc1⟩:=hL.2.2.2.2 hn;rw [e] at e1
  cases e1
  have hlt:=Z0 (hc1 0 hn)
  exact ⟨b,o',e,fun k hk=>(World.cell?_setCell_other W _ _ u (fun e2=>by cases e2;simp at hlt;omega)).trans (hc k hk)⟩⟩⟩
theorem Zuu (d:Nat) (hd:1 <= d) (lp Bs n c:Nat) (A:Option Addr) (l:List Nat) (J Jx:List { i:Nat // i < n }->World->Prop)
    (hY:∀ pre x W,J pre W->pre.length < n->YieldAt Fence.wide (d - 1) Tryz.prog lp (Zgr l n x) W fun e W' =>
     (e=.returned (.bool true)/\J (pre ++ [x]) W'/\KpD Bs A n c l W W') \/ (e=.returned (.bool false)/\Jx (pre ++ [x]) W'))
    (W:World) (hBs:W.cell? ⟨Bs,0,none⟩=some (.slice A n c)) (hL:Lim W A n c l) (h0:J [] W) :
    CallsIn Fence.wide d Tryz.prog 226 #[.func (.yield lp) #[] #[],.pointer (some ⟨Bs,0,none⟩)] W fun e W'=>(∃ v,e=.returned v) /\
     ((∃ ys,ys=Zct n n/\J ys W') \/ (∃ pre,(∃ k,k <= n/\pre=Zct n k)/\Jx pre W')):=by
 have hnc:=hL.2.1;have hcm:=hL.2.2.1;unfold maxLen at hcm;refine callsIn_of_wp Tryz.func226 rfl trivial ?_ rfl;simp only [Tryz.ntmps226,List.size_toArray,List.length_cons,List.length_nil,Nat.reduceAdd,Nat.reduceSub,Array.replicate_succ,Array.replicate_zero,List.push_toArray,List.append_toArray,List.nil_append,List.cons_append]
 gi_wp2
 gi_loopw [3] (fun i wr=>∃ k:Nat,k <= n/\i=.int .i64 ((n:Int) - 1 - k)/\J (Zct n k) wr/\Hid (wr.cell? ⟨Bs,0,none⟩=some (.slice A n c))/\Lim wr A n c l)
  (fun i _=>(intOf i+1).toNat)
 case atStart=>exact ⟨0,Nat.zero_le _,by go_num,h0,hBs,hL⟩
 case round =>
  obtain ⟨k,hk,rfl,hJs,hbx',hLr⟩:=hrel;have hbx:=hbx'.out
  by_cases hlt:k < n
  ·obtain ⟨b,o,rfl,hcx⟩:=hLr.at_ (k:=n - 1 - k) (by omega)
   obtain ⟨fn,tmps,assign,body,hy,hR⟩:=hY _ ⟨n - 1 - k,by omega⟩ wr hJs (by rw [Zc3 hk];exact hlt);dsimp only [Zgr] at hy;rw [show ((n - 1 - k:Nat):Int)=(n:Int) - 1 - k by omega] at hy
   gi_wp2
   refine hR.mono ?_;rintro e W3 (⟨rfl,hJ3,hk3⟩ | ⟨rfl,hJx3⟩)
   ·have hbx3:=Za (hk3.1 hbx'.out)
    gi_wp2
    go_roundw
    case rel=>exact ⟨k+1,by omega,by go_num,by rw [Zda hlt];exact hJ3,hbx3,hk3.2 hLr⟩
    case measure=>simp [intOf];omega
   ·gi_wp2
    refine bodyPost_ret (results_none rfl _ _ _) rfl ?_;exact ⟨⟨_,rfl⟩,.inr ⟨_,⟨k+1,by omega,(Zda hlt).symm⟩,hJx3⟩⟩
  ·obtain rfl:k=n:=by omega
   gi_wp2
   go_end0
   exact ⟨⟨_,rfl⟩,.inl ⟨_,rfl,hJs⟩⟩
theorem Zg6 (d:Nat) (hd:1 <= d) (Bs n c:Nat) (A:Option Addr) (l:List Nat) (w:World) (hc:w.cell? ⟨Bs,0,none⟩=some (.slice A n c)) (hL:Lim w A n c l) :
    SeqStopsK Fence.wide d Tryz.prog 226 #[.pointer (some ⟨Bs,0,none⟩)] (Zgr l n) (KpD Bs A n c l) (fun ys=>ys=Zct n n) (fun pre=>∃ k,k <= n/\pre=Zct n k) n w:=fun lp J Jx W hW _ _ hY h0 =>
 Zuu d hd lp Bs n c A l J Jx hY W ((hW.cell (Z0 hc)).trans hc) (hL.below hW) h0
theorem Zjv (A:Option Addr) (n c:Nat) (w:World) :
    Calls Tryz.prog 210 #[.slice A n c] w fun e w'=>e=.returned (.func (.func 226) #[] #[.pointer (some ⟨w.heap.size,0,none⟩)])/\w.alloc (.cells #[.slice A n c] 25)=w':=by
 go_enter Tryz.func210,Tryz.ntmps210
 go_wp2
 go_ret;exact ⟨rfl,rfl⟩
def Zbw (a b:List Nat):Int:=if a.length < b.length then -1 else if b.length < a.length then 1 else if val a < val b then -1 else if val b < val a then 1 else 0
theorem Zkv {l:List Nat} {k:Nat} (h:k < l.length):val (l.drop k)=l[k]?.getD 0+4294967296 * val (l.drop (k+1)):=by
 rw [List.drop_eq_getElem_cons h,val,List.getElem?_eq_getElem h];rfl
theorem Zi4 {a b:List Nat} {n k:Nat} (ha:a.length=n) (hb:b.length=n) (hla:Lt32 a) (hk:k < n) (he:∀ j,k < j->j < n->a[j]?.getD 0=b[j]?.getD 0) (hlt:a[k]?.getD 0 < b[k]?.getD 0):val a < val b:=by
 have h1:∀ m,k < n - m->m <= n->val (a.drop (n - m))=val (b.drop (n - m)):=by
  intro m
  induction m with
  | zero=>intro _ _;rw [Nat.sub_zero,List.drop_of_length_le (by omega),List.drop_of_length_le (by omega)]
  | succ m ih =>
   intro h h';rw [Zkv (l:=a) (by omega),Zkv (l:=b) (by omega),he _ h (by omega),show n - (m+1)+1=n - m by omega,ih (by omega) (by omega)]
 have h2:val (a.drop (k+1))=val (b.drop (k+1)):=by
  rcases Nat.lt_or_ge (k+1) n with h | h
  ·have:=h1 (n - (k+1)) (by omega) (by omega)
   rwa [show n - (n - (k+1))=k+1 by omega] at this
  ·rw [List.drop_of_length_le (by omega),List.drop_of_length_le (by omega)]
 have h3:=Zac a k (by omega);have h4:=Zac b k (by omega);rw [Zkv (by omega)] at h3 h4;have h5:=Zen (hla.take k);rw [List.length_take,Nat.min_eq_left (by omega)] at h5;rw [h3,h4,h2]
 generalize val (b.drop (k+1))=t
 have:pw k * (a[k]?.getD 0+4294967296 * t+1) <= pw k * (b[k]?.getD 0+4294967296 * t):=Nat.mul_le_mul_left _ (by omega);rw [Nat.mul_add,Nat.mul_one] at this;omega
theorem Zua {a b:List Nat} {n:Nat} (ha:a.length=n) (hb:b.length=n) (he:∀ j,j < n->a[j]?.getD 0=b[j]?.getD 0):a=b:=by
 apply List.ext_getElem (by omega)
 intro i h1 h2;have:=he i (by omega)
 rwa [List.getElem?_eq_getElem h1,List.getElem?_eq_getElem h2] at this
theorem Zli (a:List Nat):Zbw a a=0:=by simp [Zbw]
theorem Zb8 (A B:Option Addr) (n c m d:Nat) (a b:List Nat) (w:World) (ha:Lim w A n c a) (hb:Lim w B m d b) :
    Calls Tryz.prog 154 #[.slice A n c,.slice B m d] w fun e w'=>e=.returned (.int .i64 (Zbw a b))/\Below w.heap.size w w':=by
 have hnc:=ha.2.1;have hmd:=hb.2.1;have hcm:=ha.2.2.1;have hdm:=hb.2.2.1;unfold maxLen at hcm hdm
 by_cases h1:n < m
 ·have hne:(((n:Nat):Int) != m)=true:=by simp;omega
  have hd:decide (n < m)=true:=by simpa using h1
  have hr:Zbw a b=-1:=by unfold Zbw;rw [ha.len,hb.len,if_pos h1]
  rw [hr];go_enter Tryz.func154,Tryz.ntmps154
  go_wp2
  go_returns;exact ⟨rfl,by go_grown⟩
 by_cases h2:m < n
 ·have hne:(((n:Nat):Int) != m)=true:=by simp;omega
  have hd:decide (n < m)=false:=by simpa using h1
  have hr:Zbw a b=1:=by unfold Zbw;rw [ha.len,hb.len,if_neg h1,if_pos h2]
  rw [hr];go_enter Tryz.func154,Tryz.ntmps154
  go_wp2
  go_returns;exact ⟨rfl,by go_grown⟩
 obtain rfl:n=m:=by omega
 have hne:(((n:Nat):Int) != n)=false:=by simp
 have h9:1 <= 9:=by omega
 refine (callsIn_wide (n:=9)).1 ?_;refine callsIn_of_wp_marks Tryz.func154 rfl trivial ?_ rfl;simp only [Tryz.ntmps154,List.size_toArray,List.length_cons,List.length_nil,Nat.reduceAdd,Nat.reduceSub,Array.replicate_succ,Array.replicate_zero,List.push_toArray,List.append_toArray,List.nil_append,List.cons_append]
 gi_wp2_with (refine ⟨trivial,?_⟩;gi_at_call 210;refine (callsIn_wide.2 (Zjv _ _ _ _)).mono ?_;rintro e w' ⟨rfl,rfl⟩)
 have bB:=Boxed.new w 25 (.slice B n d);have bR:=Boxed.new (w.alloc (.cells #[.slice B n d] 25)) 3 (.int .i64 0);have bN:=Boxed.new ((w.alloc (.cells #[.slice B n d] 25)).alloc (.cells #[.int .i64 0] 3)) 25 (.slice A n c);simp only [World.size_alloc] at bR bN
 have hB0:Below w.heap.size w (((w.alloc (.cells #[.slice B n d] 25)).alloc (.cells #[.int .i64 0] 3)).alloc (.cells #[.slice A n c] 25)):=by go_grown
 refine wpIn_rangeFunc_ownF rfl h9 (gf:=226) (lb:=#[.pointer (some ⟨w.heap.size+1+1,0,none⟩)]) rfl trivial (enters_of Tryz.func226 (by kernel_rfl) rfl)
  (Zg6 8 (by omega) (w.heap.size+1+1) n c A a _ bN.cell (ha.below hB0)) KpD.trans (fun W l o o' _ h hc _=>KpD.put W l o o' h hc) (Below.refl _ _) (fun _=>rfl)
  (fun pre W=>((∀ p ∈ pre,a[p.1]?.getD 0=b[p.1]?.getD 0)/\W.cell? ⟨w.heap.size,0,none⟩=some (.slice B n d)/\W.cell? ⟨w.heap.size+1,0,none⟩=some (.int .i64 0)/\W.frozen? ⟨w.heap.size+1,0,none⟩=false)/\Below w.heap.size w W)
  (fun cc pre W=>(cc=.ret/\∃ ini last,pre=ini ++ [last]/\(∀ p ∈ ini,a[p.1]?.getD 0=b[p.1]?.getD 0) /\
   ((a[last.1]?.getD 0 < b[last.1]?.getD 0/\W.cell? ⟨w.heap.size+1,0,none⟩=some (.int .i64 (-1))) \/ (b[last.1]?.getD 0 < a[last.1]?.getD 0/\W.cell? ⟨w.heap.size+1,0,none⟩=some (.int .i64 1))))/\Below w.heap.size w W)
  (OwnFrom.and (Own.from (fun s X Y row hs hg hr=>⟨hs.1,cell_kept hs.2.1 hg hr,cell_kept hs.2.2.1 hg hr,(frozen_kept hs.2.2.1 hg hr).trans hs.2.2.2⟩) _) (ownFrom_below (Nat.le_refl _) (by simp;omega)))
  (fun cc=>OwnFrom.and (Own.from (fun s X Y row hs hg hr=>by
   obtain ⟨hc,ini,last,e1,e2,e3⟩:=hs;refine ⟨hc,ini,last,e1,e2,?_⟩
   rcases e3 with ⟨e3,e4⟩ | ⟨e3,e4⟩
   ·exact .inl ⟨e3,cell_kept e4 hg hr⟩
   ·exact .inr ⟨e3,cell_kept e4 hg hr⟩) _) (ownFrom_below (Nat.le_refl _) (by simp;omega)))
  ⟨⟨by simp,((bB.alloc _).alloc _).cell,(bR.alloc _).cell,(bR.alloc _).frozen⟩,hB0⟩
  (fun x=>{ tmps:=#[.slice A n c,.slice B n d,undef,.pointer (some ⟨w.heap.size,0,none⟩),.pointer (some ⟨w.heap.size+1,0,none⟩),.int .i64 (x.1:Int),limb (a[x.1]?.getD 0),.slice A n c,
   .int .i64 n,.slice B n d,.int .i64 n,.bool false,undef,undef,undef,undef,undef,.slice A n c,.func (.func 226) #[] #[.pointer (some ⟨w.heap.size+1+1,0,none⟩)],.int .i64 (x.1:Int),limb (a[x.1]?.getD 0),
   undef,undef,undef,undef,undef,undef,undef,undef,undef,undef,undef,undef],defers:=[] }) ?assign ?body ?done ?stop
 case assign =>
  intro l x W K hK;dsimp only [Zgr]
  gi_wp2
  exact hK
 case body =>
  rintro l pre x W ⟨⟨hp,hcB,hcr,hfr⟩,hB⟩ _;obtain ⟨i,hi⟩:=x;obtain ⟨bb,ob,rfl,hcx⟩:=(hb.below hB).at_ hi
  by_cases t1:a[i]?.getD 0 < b[i]?.getD 0
  ·have hd1:decide (a[i]?.getD 0 < b[i]?.getD 0)=true:=by simpa using t1
   gi_wp2
   exact ⟨KeepsOthers.setCell _ _ _,⟨rfl,pre,⟨i,hi⟩,rfl,hp,.inl ⟨t1,World.cell?_setCell_same' _ _ _ (by rw [hcr];rfl)⟩⟩,hB.setCell (p:=⟨w.heap.size+1,0,none⟩) (by simp) _⟩
  ·have hd1:decide (a[i]?.getD 0 < b[i]?.getD 0)=false:=by simpa using t1
   by_cases t2:b[i]?.getD 0 < a[i]?.getD 0
   ·have hd2:decide (b[i]?.getD 0 < a[i]?.getD 0)=true:=by simpa using t2
    gi_wp2
    exact ⟨KeepsOthers.setCell _ _ _,⟨rfl,pre,⟨i,hi⟩,rfl,hp,.inr ⟨t2,World.cell?_setCell_same' _ _ _ (by rw [hcr];rfl)⟩⟩,hB.setCell (p:=⟨w.heap.size+1,0,none⟩) (by simp) _⟩
   ·have hd2:decide (b[i]?.getD 0 < a[i]?.getD 0)=false:=by simpa using t2
    gi_wp2
    exact ⟨KeepsOthers.refl _,KpD.refl _ _ _ _ _ _,⟨fun p hp'=>(List.mem_append.1 hp').elim (hp p) (fun e=>by simp at e;subst e;simp;omega),hcB,hcr,hfr⟩,hB⟩
 case done =>
  rintro D ys W hD rfl ⟨⟨hne,hcB,hcr,hfr⟩,hB⟩ hK;have hab:a=b:=Zua ha.len hb.len (fun j hj=>hne ⟨j,hj⟩ ((Zj4 (Nat.le_refl _) _).2 (by simp)))
  gi_wp2
  have hK':=(KeepsOthers.setCell W ⟨w.heap.size+1,0,none⟩ (.int .i64 0)).same D _ hK rfl;refine ⟨by simp,.inl ⟨_,_,rfl,run_takeDeferred hK',?_⟩⟩;have hc5:=cell_kept (World.cell?_setCell_same' W ⟨w.heap.size+1,0,none⟩ (.int .i64 0) (by rw [hcr];rfl)) (grownBy_putObj' _ D (.deferred none)) (fun r e=>by cases e;exact ⟨_,hK',rfl⟩);refine ⟨.int .i64 0,?_,by rw [hab,Zli],(hB.setCell (p:=⟨w.heap.size+1,0,none⟩) (by simp) _).trans (belowK_b (w:=w) (Nat.le_refl _) _ D _ _ (by simp at hD;omega) hK' rfl rfl)⟩
  simp [results,Tryz.f154,go_sem,hc5]
 case stop =>
  rintro D cc pre W hD ⟨k,hk,rfl⟩ ⟨⟨rfl,ini,last,e1,e2,e3⟩,hB⟩ hK
  obtain ⟨k',rfl⟩:∃ k',k=k'+1:=by
   cases k with
   | zero=>simp [Zct] at e1
   | succ k'=>exact ⟨k',rfl⟩
  rw [Zda (by omega)] at e1;obtain ⟨rfl,e5⟩:=List.append_inj' e1 rfl
  have e6:last.1=n - 1 - k':=by
   have:=congrArg (List.map (fun z:{ i:Nat // i < n }=>z.1)) e5
   simpa using this.symm
  rw [e6] at e3
  have he:∀ j,n - 1 - k' < j->j < n->a[j]?.getD 0=b[j]?.getD 0:=fun j hj hj'=>e2 ⟨j,hj'⟩ ((Zj4 (by omega) _).2 (by simp;omega))
  obtain ⟨r,hcr,hr⟩:∃ r:Int,W.cell? ⟨w.heap.size+1,0,none⟩=some (.int .i64 r)/\Zbw a b=r:=by
   rcases e3 with ⟨e3,e4⟩ | ⟨e3,e4⟩
   ·have:=Zi4 ha.len hb.len ha.lt (by omega) he e3
    exact ⟨_,e4,by unfold Zbw;rw [ha.len,hb.len];simp [this]⟩
   ·have:=Zi4 hb.len ha.len hb.lt (by omega) (fun j h h'=>(he j h h').symm) e3
    exact ⟨_,e4,by unfold Zbw;rw [ha.len,hb.len];simp [this];omega⟩
  gi_wp2
  refine ⟨by simp,.inl ⟨_,_,rfl,run_takeDeferred hK,?_⟩⟩;have hc5:=cell_kept hcr (grownBy_putObj' _ D (.deferred none)) (fun r e=>by cases e;exact ⟨_,hK,rfl⟩);refine ⟨.int .i64 r,?_,by rw [hr],hB.trans (belowK_b (w:=w) (Nat.le_refl _) W D _ _ (by simp at hD;omega) hK rfl rfl)⟩
  simp [results,Tryz.f154,go_sem,hc5]
def OnlyNormal (Q:Exit->Act->World->Prop):Exit->Act->World->Prop
 | .normal,a,w=>Q .normal a w
 | _,_,_=>False
theorem OnlyNormal.no_out {Q:Exit->Act->World->Prop} (h:LetsOut (OnlyNormal Q)):False:=by
 obtain ⟨a,w,h⟩:=h;exact h
theorem OnlyNormal.normal {Q:Exit->Act->World->Prop} {a:Act} {w:World} (h:Q .normal a w):OnlyNormal Q .normal a w:=h
theorem Zbr {l n:Nat} {P:Program} {ops:Array Oper} {Q:Exit->Act->World->Prop} (hnd:∀ (i:Nat) (o:Oper),ops[i]?=some o->∀ c,o.op ≠ .defer c) :
    ∀ (is:List Nat) (a:Act) (w:World),wpOps P ops (OnlyNormal Q) is a w->wpOpsIn (Fence.wide.inRound l) n P ops Q is a w
 | [],_,_,h=>h
 | i :: rest,a,w,h=>by
  simp only [wpOps] at h;simp only [wpOpsIn]
  cases ho:ops[i]? with
  | none=>simp only [ho] at h ⊢;exact Zbr hnd rest a w h
  | some o =>
   simp only [ho] at h ⊢
   by_cases hw:Region.wanted o (yielded ops a.tmps)=true
   ·simp only [hw,if_true] at h ⊢
    rcases h with h | ⟨_,h⟩
    ·refine ⟨fun _ _=>trivial,?_⟩
     rw [Oper.semAt_eq _ _ _ (hnd i o ho)];unfold Oper.wp at h
     generalize (execOp a.eval o).run P w=r at *
     cases r with
     | ok x w' =>
      cases x with
      | value v=>exact Zbr hnd rest _ _ h
      | skip=>exact Zbr hnd rest _ _ h
      | defer d=>exact Zbr hnd rest _ _ h
      | enter f args =>
       refine ⟨(fun h=>by cases h),CallsIn.inRound l (callsIn_wide.2 (Calls.mono h fun e w'' he=>?_))⟩
       cases e with
       | returned v=>exact Zbr hnd rest _ _ he
       | panicked c=>exact (he:False).elim
       | outgrown=>exact (OnlyNormal.no_out he).elim
      | row row args =>
       refine ⟨(fun h=>by cases h),fun c cs _=>?_⟩;obtain ⟨v,w'',hR,hs⟩:=h c cs;exact ⟨v,w'',Zbr hnd rest _ _ hR,stepsIn_wide.2 hs⟩
      | _=>exact (h:False).elim
     | halt x w'=>cases x <;> exact (h:False).elim
    ·exact (OnlyNormal.no_out h).elim
   ·simp only [hw,if_false,Bool.false_eq_true] at h ⊢
    exact ⟨fun _ _=>trivial,Zbr hnd rest _ _ h⟩
def Zh8 (ops:Array Oper):Bool:=ops.all fun o=>match o.op with | .defer _=>false | _=>true
theorem Zk2 {ops:Array Oper} (h:Zh8 ops=true):∀ (i:Nat) (o:Oper),ops[i]?=some o->∀ c,o.op ≠ .defer c:=by
 intro i o ho c hc;unfold Zh8 at h;rw [Array.all_eq_true] at h;obtain ⟨hi,rfl⟩:=Array.getElem?_eq_some_iff.1 ho;have:=h i hi;rw [hc] at this
 cases this
def Zc8 (L:List Nat) (listed:Array Bool):Bool:=L.all fun k=>!(listed.getD k true)
def Zaj (P:Program) (md:Region.Mode) (ops:Array Oper) (Q:Exit->Act->World->Prop) (L:List Nat) (S:World->Prop):Nat->Array Bool->Act->World->Prop
 | 0,listed,a,w=>Region.ready md ops listed=[]/\Q .normal a w
 | fuel+1,listed,a,w =>
  (Region.ready md ops listed=[]->Q .normal a w) /\
  ∀ i ∈ Region.ready md ops listed,wpOp P ops Q i (fun a' w'=>(Zc8 L (listed.setIfInBounds i true)=true->S w')/\Zaj P md ops Q L S fuel (listed.setIfInBounds i true) a' w') a w
section
variable {P:Program} {ops:Array Oper} {Q:Exit->Act->World->Prop} {md:Region.Mode} {L:List Nat} {S:World->Prop}
theorem Zg0:∀ (fuel:Nat) (listed:Array Bool) (a:Act) (w:World),Zaj P md ops Q L S fuel listed a w->wpAny P md ops Q fuel listed a w
 | 0,_,_,_,h=>h
 | fuel+1,_,_,_,h=>⟨h.1,fun i hi=>wpOp_mono (fun a' w' h'=>Zg0 fuel _ a' w' h'.2) (h.2 i hi)⟩
theorem Zcs {listed:Array Bool} {j:Nat} (hj:j ∉ L):Zc8 L (listed.setIfInBounds j true)=Zc8 L listed:=by
 unfold Zc8;rw [Bool.eq_iff_iff,List.all_eq_true,List.all_eq_true]
 have:∀ k ∈ L,(listed.setIfInBounds j true).getD k true=listed.getD k true:=fun k hk=>Go.getD_set_ne true (fun e=>hj (e ▸ hk))
 constructor
 ·intro h k hk;rw [<- this k hk];exact h k hk
 ·intro h k hk;rw [this k hk];exact h k hk
def Zhy (md:Region.Mode) (ops:Array Oper) (L:List Nat) (i:Nat):Bool:=L.all fun k=>k != i && (match ops[k]? with | some o=>o.after.any fun e=>Region.binds md e && e.on == i | none=>false)
theorem Zmm {i:Nat} {oi:Oper} {v:Value} (hi:ops[i]?=some oi) (hsel:∀ (j:Nat) (o:Oper) cs b,ops[j]?=some o->o.op ≠ .select cs b)
    (hQ:∀ c a w,Q (.panic c) (a.put oi.dst v) w->Q (.panic c) a w) (hL:Zhy md ops L i=true) :
    ∀ (fuel:Nat) (listed:Array Bool) (a:Act) (w:World),
     (∀ j oj,ops[j]?=some oj->j ≠ i->listed.getD j true=false->(∀ e ∈ oj.after,Region.binds md e=true->e.on ≠ i)->oi.apart ops oj=true) ->
     i ∈ Region.ready md ops listed->YieldsIf P ops S oi v a->Zc8 L listed=true->S w ->
     Zaj P md ops Q L S fuel (listed.setIfInBounds i true) (a.put oi.dst v) w->Zaj P md ops Q L S (fuel+1) listed a w:=by
 have hiL:i ∉ L:=fun h=>by
  unfold Zhy at hL;rw [List.all_eq_true] at hL;have:=hL i h
  simp at this
 intro fuel
 induction fuel with
 | zero =>
  intro listed a w _ hr hy hn hS H;refine ⟨fun h=>(by rw [h] at hr;cases hr),fun j hj=>?_⟩
  by_cases hji:j=i
  ·subst hji;exact hy.wpOp hi hS ⟨fun _=>hS,H⟩
  ·have:=ready_mono hj hji
   rw [H.1] at this
   cases this
 | succ fuel ih =>
  intro listed a w hfree hr hy hn hS H;refine ⟨fun h=>(by rw [h] at hr;cases hr),fun j hj=>?_⟩
  by_cases hji:j=i
  ·subst hji;exact hy.wpOp hi hS ⟨fun _=>hS,H⟩
  ·have h1:=H.2 j (ready_mono hj hji)
   obtain ⟨hjun,oj,hoj,hall⟩:=mem_ready.1 hj
   have hnot:∀ e ∈ oj.after,Region.binds md e=true->e.on ≠ i:=fun e he hb heq=>by
    have h1:=hall e he hb;have h0:=(mem_ready.1 hr).1;rw [heq] at h1
    rcases Nat.lt_or_ge i listed.size with h' | h'
    ·simp [h'] at h0 h1;rw [h0] at h1;cases h1
    ·simp [Array.getElem?_eq_none h'] at h1
   have hjL:j ∉ L:=fun hjL=>by
    unfold Zhy at hL;rw [List.all_eq_true] at hL;have h2:=hL j hjL;rw [hoj] at h2;simp only [Bool.and_eq_true,Array.any_eq_true'] at h2;obtain ⟨_,e,he,h3,h4⟩:=h2;exact hnot e he h3 (by simpa using h4)
   have h2:=wpOp_putIf hoj (hfree j oj hoj hji hjun hnot) (fun cs b=>hsel i oi cs b hi) (fun cs b=>hsel j oj cs b hoj) hQ hy h1
   have hfree':∀ k ok,ops[k]?=some ok->k ≠ i->(listed.setIfInBounds j true).getD k true=false ->
       (∀ e ∈ ok.after,Region.binds md e=true->e.on ≠ i)->oi.apart ops ok=true:=fun k ok hk hki hun hno=>by
    refine hfree k ok hk hki ?_ hno
    by_cases hjk:j=k
    ·subst hjk;exact hjun
    ·rw [Go.getD_set_ne true hjk] at hun;exact hun
   have hn2:Zc8 L (listed.setIfInBounds j true)=true:=by rw [Zcs hjL];exact hn
   refine wpOp_mono (fun a' w' h3=>⟨fun _=>h3.2.1 (by rw [Zcs hjL,Zcs hiL];exact hn),ih (listed.setIfInBounds j true) a' w' hfree' (ready_mono hr (Ne.symm hji)) h3.1 hn2 (h3.2.1 (by rw [Zcs hjL,Zcs hiL];exact hn)) ?_⟩) h2;rw [Array.setIfInBounds_comm _ _ hji];exact h3.2.2
theorem Zd {i:Nat} {oi:Oper} {v:Value} {fuel:Nat} {listed:Array Bool} {a:Act} {w:World} (hi:ops[i]?=some oi)
    (hs:Region.noSelect ops=true) (hf:Region.free md ops listed i=true) (hr:(Region.ready md ops listed).contains i=true) (hL:Zhy md ops L i=true) (hn:Zc8 L listed=true)
    (hy:YieldsIf P ops S oi v a) (hS:S w)
    (h:Zaj P md ops (OnlyNormal Q) L S fuel (listed.setIfInBounds i true) (a.put oi.dst v) w):Zaj P md ops (OnlyNormal Q) L S (fuel+1) listed a w:=
 Zmm hi (Region.noSelect_spec hs) (fun _ _ _ h=>(h:False).elim) hL fuel listed a w (Region.free_spec hi hf) (by simpa using hr) hy hn hS h
theorem Ze {i:Nat} {o:Oper} {fuel:Nat} {listed:Array Bool} {a:Act} {w:World} (ho:ops[i]?=some o) (hr:Region.ready md ops listed=[i])
    (h:∀ K':Act->World->Prop,Shut (∀ a w,(Zc8 L (listed.setIfInBounds i true)=true->S w)->Zaj P md ops Q L S fuel (listed.setIfInBounds i true) a w->K' a w)->if Region.wanted o (yielded ops a.tmps)=true then Oper.wp P o a w K' Q else K' (a.put o.dst undef) w) :
    Zaj P md ops Q L S (fuel+1) listed a w:=
 ⟨(fun h0=>by rw [h0] at hr;cases hr),fun j hj=>by
  rw [hr,List.mem_singleton] at hj;subst hj
  exact wpOp_step ho (fun K' hK=>h K' (fun a w hS hW=>hK a w ⟨hS,hW⟩))⟩
theorem Zp {i:Nat} {o:Oper} {fuel:Nat} {listed:Array Bool} {a:Act} {w:World} (ho:ops[i]?=some o) (hr:Region.ready md ops listed=[i]) (hn:Zc8 L (listed.setIfInBounds i true)=false)
    (h:∀ K':Act->World->Prop,Shut (∀ a w,Zaj P md ops Q L S fuel (listed.setIfInBounds i true) a w->K' a w)->if Region.wanted o (yielded ops a.tmps)=true then Oper.wp P o a w K' Q else K' (a.put o.dst undef) w) :
    Zaj P md ops Q L S (fuel+1) listed a w:=
 Ze ho hr fun K hK=>h K fun a w hW=>hK a w (fun h=>by rw [hn] at h;cases h) hW
theorem Zj {listed:Array Bool} {a:Act} {w:World} (hr:Region.ready md ops listed=[]) (h:Q .normal a w):∀ fuel,Zaj P md ops Q L S fuel listed a w
 | 0=>⟨hr,h⟩
 | _+1=>⟨fun _=>h,by rw [hr];simp⟩
end
theorem Zc5 {l n:Nat} {P:Program} {id:Nat} {ops:Array Oper} {Q:Exit->Act->World->Prop} {a:Act} {w:World} (L:List Nat) (S:World->Prop) (hm:P.follows .mixedOrders=true) (hnd:Zh8 ops=true)
    (hS:S w.drew) (h:S w.drew->Zaj P .any ops (OnlyNormal Q) L S ops.size (Array.replicate ops.size false) a w.drew):(Code.region id ops true).wpIn (Fence.wide.inRound l) n P Q a w:=
 wpIn_region_draw fun t=>Zbr (Zk2 hnd) _ _ _ (by
  simp only [Region.schedule,hm,Bool.true_or,if_true]
  exact wpAny_sound ops.size t _ a _ (Zg0 _ _ _ _ (h hS)))
section
variable {P:Program} {ops:Array Oper} {Q:Exit->Act->World->Prop} {md:Region.Mode} {L:List Nat} {S:World->Prop} {R:Act->Prop}
end
theorem putL_a {α:Type} (l:List α) (i:Nat) (a:α):l.toArray.setIfInBounds i a=(l.set i a).toArray:=List.setIfInBounds_toArray l i a
theorem putG_a {α:Type} (l:List α) (i:Nat) (h:i < l.toArray.size):l.toArray[i]=l[i]'(by simpa using h):=by simp
theorem putG_z {α:Type} (a:α) (l:List α) (h:0 < (a :: l).length):(a :: l)[0]'h=a:=rfl
theorem putG_s {α:Type} (a:α) (l:List α) (i:Nat) (h:i+1 < (a :: l).length):(a :: l)[i+1]'h=l[i]'(by simpa using h):=rfl
theorem putL_z {α:Type} (a b:α) (l:List α):(a :: l).set 0 b=b :: l:=rfl
theorem putL_s {α:Type} (a b:α) (l:List α) (n:Nat):(a :: l).set (n+1) b=a :: l.set n b:=rfl
def Zm1 (md:Region.Mode) (ops:Array Oper) (L:List Nat):List Nat->Array Bool->Bool
 | [],_=>true
 | i :: is,l=>Region.free md ops l i && (Region.ready md ops l).contains i && Zhy md ops L i && Zc8 L l && Zm1 md ops L is (l.setIfInBounds i true)
def Zf3 (P:Program) (ops:Array Oper) (S:World->Prop):List Nat->Act->(Act->Prop)->Prop
 | [],a,R=>R a
 | i :: is,a,R=>∃ oi v,ops[i]?=some oi/\YieldsIf P ops S oi v a/\Zf3 P ops S is (a.put oi.dst v) R
def Zhp:List Nat->Array Bool->Array Bool
 | [],l=>l
 | i :: is,l=>Zhp is (l.setIfInBounds i true)
section
variable {P:Program} {ops:Array Oper} {Q:Exit->Act->World->Prop} {md:Region.Mode} {L:List Nat} {S:World->Prop} {R:Act->Prop}
theorem tk0 {a:Act} (h:R a):Zf3 P ops S [] a R:=h
theorem tk1 {i:Nat} {is:List Nat} {oi:Oper} {v:Value} {a:Act} (ho:ops[i]?=some oi) (hy:YieldsIf P ops S oi v a) (h:Zf3 P ops S is (a.put oi.dst v) R):Zf3 P ops S (i :: is) a R:=⟨oi,v,ho,hy,h⟩
theorem Zlm (hs:Region.noSelect ops=true) {w:World} (hS:S w):∀ (is:List Nat) (F:Nat) (listed:Array Bool) (a:Act),Zm1 md ops L is listed=true->Zf3 P ops S is a (fun a'=>Zaj P md ops (OnlyNormal Q) L S F (Zhp is listed) a' w)->Zaj P md ops (OnlyNormal Q) L S (F+is.length) listed a w
 | [],F,l,a,_,h=>h
 | i :: is,F,l,a,hc,h=>by
  obtain ⟨oi,v,ho,hy,h2⟩:=h;simp only [Zm1,Bool.and_eq_true] at hc;exact Zd ho hs hc.1.1.1.1 hc.1.1.1.2 hc.1.1.2 hc.1.2 hy hS (Zlm hs hS is F _ _ hc.2 h2)
theorem Zu5 {F:Nat} {listed:Array Bool} {a:Act} {w:World} (k:Nat) (is:List Nat) (hk:is.length=k) (hc:(Region.noSelect ops && Zm1 md ops L is listed)=true) (hS:S w)
    (h:Zf3 P ops S is a (fun a'=>Zaj P md ops (OnlyNormal Q) L S F (Zhp is listed) a' w)):Zaj P md ops (OnlyNormal Q) L S (F+k) listed a w:=by
 rw [Bool.and_eq_true] at hc;subst hk;exact Zlm hc.1 hS is F listed a hc.2 h
end
end Go.Proofs.YtaioanjcjijckaaGreat
