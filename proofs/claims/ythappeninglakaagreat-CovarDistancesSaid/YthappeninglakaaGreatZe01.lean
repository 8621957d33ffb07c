/- Limbs of 32 bits, the lowest one first: what a list of -/
import Derived.Test.YthappeninglakaaGreatProg
import Derived.WalkKit
import Derived.WalkSpells
import Derived.WalkLawsBesides
import Derived.Lib.Hide
import Derived.Laws.OwnMore
import Derived.Deep.AppendLies
import Derived.Deep.Draws
import Derived.Laws.Rows
import Derived.Deep.OwnRows
import Derived.OwnWalk
import Derived.Handy
import Derived.IntWalk
import Derived.Maps.AppendAt
import Derived.RegionTactic
import Derived.Test.YthappeninglakaaGreatRows
import Derived.RangeFuncBox
import Derived.RangeFuncLeaves
import Derived.RangeFuncNested
import Derived.RangeFuncCalls
import Derived.Shelf.Abstract
import Derived.OwnWalkIn
import Derived.TacticsInMore
import Derived.LoopNIn
import Derived.LoopIn
import Derived.Deep.RegionHeld3
import Derived.BigQuiet
import Derived.Deep.QuietTactic
import Derived.Deep.DeepFit
set_option maxRecDepth 100000
set_option maxHeartbeats 2000000
set_option linter.unusedSimpArgs false
set_option linter.unusedVariables false
namespace Go.Proofs.YthappeninglakaaGreat
open Go.RowKit
open Nat renaming le_refl→Qa,zero_le→Qe,lt_or_ge→Qf,eq_zero_or_pos→Qj,xor_lt_two_pow→Qk,mul_add→Qm,and_lt_two_pow→Qr,min_eq_left→Qv,mul_le_mul_left→Qx,mul_assoc→QA,mod_lt→QD,zero_add→QF,strongRecOn→QJ,mul_le_mul→QN,div_mul_le_self→QT,mul_comm→QU,lt_of_le_of_lt→QW,le_of_lt→QY,le_trans→QZ,le_add_right→Yi
open List renaming replicate→Qb,getElem?_eq_getElem→Qc,length_set→Qg,getElem?_eq_none→Qh,eq_nil_of_length_eq_zero→Qi,length_cons→Qn,length_take→Qo,drop_of_length_le→Qq,take_of_length_le→Qs,cons_append→Qt,exists_cons_of_ne_nil→Qz,mem_or_eq_of_mem_set→QB,getLast?_eq_getElem?→QC,getElem_mem→QE,getElem?_cons_succ→QH,getElem?_replicate→QI,nil_append→QK,getElem?_set_self→QL,append_toArray→QS,set_cons_succ→QV,getElem?_take→QX,getElem?_map→Yc,ext_getElem?→Yd,size_toArray→Ye,push_toArray→Yf,length_nil→Yj
open Below renaming refl→Qd
open World renaming cell?_setCell_other→Ql,size_alloc→QG,cell?_of_block→QR
open Int renaming eq_ofNat_of_zero_le→Qp,toNat_natCast→Ya
open IntKind renaming wrap_u64→Qu
open Builtin renaming append_→Qw,zeroCells→Yg
open And renaming intro→Qy
open _root_.Array renaming getElem?_eq_none→QM,replicate_succ→QP,replicate_zero→QQ
open Bool renaming and_eq_false_imp→QO,not_eq_true'→Yb,and_eq_true→Yh
theorem Gk{p:Prop}(h:p:=by omega):p:=h
theorem Gj{p:Prop}(h:p:=by decide):p:=h
theorem Gi{p:Prop}(h:p:=by kernel_rfl):p:=h
theorem Gh{p:Prop}(h:p:=by simp):p:=h
theorem Gg{p:Prop}(h:p:=by simp;omega):p:=h
theorem Gf{p:Prop}(h:p:=by simp <;> omega):p:=h
theorem Ge{p:Prop}(h:p:=by rfl):p:=h
theorem Gd{p:Prop}(h:p:=by simp[go_sem]):p:=h
theorem Gc{p:Prop}(h:p:=by have:=n8.out;have:=n9.out;have:=a5.out;omega):p:=h
theorem Gb{p:Prop}(h:p:=by have:=hB.size;simp;omega):p:=h
theorem Ga{p:Prop}(h:p:=by have:=n8.out;have:=I.out;have:=a4.out;have:=b2.out;omega):p:=h
theorem GZ{p:Prop}(h:p:=by have:=n8.out;have:=I.out;have:=a4.out;omega):p:=h
theorem GY{p:Prop}(h:p:=by decide +kernel):p:=h
theorem Gz {α:Sort _}(a:α):∃ x,a=x:=⟨a,rfl⟩
theorem Gy {α:Sort _}(a:α):∃ x,x=a:=⟨a,rfl⟩
theorem Gx {c:Prop}{h:Decidable c}(hc:c){α:Sort _}{t e:α}:ite c t e=t:=if_pos hc
theorem Gw {c:Prop}{h:Decidable c}(hc:¬c){α:Sort _}{t e:α}:ite c t e=e:=if_neg hc
theorem Gv {p:Prop}[h:Decidable p](hp:p):decide p=true:=decide_eq_true hp
theorem Gu {p:Prop}[h:Decidable p](hp:¬p):decide p=false:=decide_eq_false hp
theorem Gt:Tryz.prog.follows .mixedOrders=true:=by kernel_rfl
def val:List Nat->Nat
 | []=>0
 | x::l=>x+4294967296*val l
def Lt32(l:List Nat):Prop:=∀ x ∈ l,x<4294967296
def digits(n:Nat):List Nat:=if h:n=0 then []else n%4294967296::digits (n/4294967296)
termination_by n
decreasing_by omega
def canon:List Nat->List Nat
 | []=>[]
 | x::l=>match canon l with
  | []=>if x=0 then []else [x]
  | y::m=>x::y::m
def pw(k:Nat):Nat:=4294967296^k
theorem Zd1:pw 0=1:=rfl
theorem Za7(k:Nat):pw (k+1)=4294967296*pw k:=by unfold pw;rw[Nat.pow_succ,QU]
theorem Zcx(a b:Nat):pw (a+b)=pw a*pw b:=by unfold pw;rw[Nat.pow_add]
theorem Zb1(k:Nat):0<pw k:=Nat.pow_pos Gj
theorem Zb6{a b:Nat}(h:a<=b):pw a<=pw b:=Nat.pow_le_pow_right Gj h
theorem Zct{a b:Nat}(h:a<b):pw a<pw b:=Nat.pow_lt_pow_right Gj h
theorem Lt32.nil:Lt32 []:=λ_ h=>by cases h
theorem Lt32.cons{x:Nat}{l:List Nat}(h:x<4294967296)(hl:Lt32 l):Lt32 (x::l):=λy hy=>by
 rcases List.mem_cons.1 hy with rfl|hy;exact h;exact hl y hy
theorem Lt32.head{x:Nat}{l:List Nat}(h:Lt32 (x::l)):x<4294967296:=h x Gh
theorem Lt32.tail{x:Nat}{l:List Nat}(h:Lt32 (x::l)):Lt32 l:=λy hy=>h y (by simp[hy])
theorem Lt32.get{l:List Nat}(h:Lt32 l)(k:Nat):l[k]?.getD 0<4294967296:=by
 rcases Qf k l.length with hk|hk;rw[Qc hk];exact h _ (QE hk);rw[Qh hk];decide
theorem Lt32.take{l:List Nat}(h:Lt32 l)(k:Nat):Lt32 (l.take k):=λx hx=>h x (List.mem_of_mem_take hx)
theorem Lt32.drop{l:List Nat}(h:Lt32 l)(k:Nat):Lt32 (l.drop k):=λx hx=>h x (List.mem_of_mem_drop hx)
theorem Lt32.append{l m:List Nat}(h:Lt32 l)(h':Lt32 m):Lt32 (l++m):=λx hx=>by
 rcases List.mem_append.1 hx with hx|hx;exact h x hx;exact h' x hx
theorem Lt32.set{l:List Nat}(h:Lt32 l)(k:Nat){v:Nat}(hv:v<4294967296):Lt32 (l.set k v):=λx hx=>by
 rcases QB hx with hx|rfl;exact h x hx;exact hv
theorem Lt32.replicate(n:Nat):Lt32 (Qb n 0):=λx hx=>by
 rw[(List.mem_replicate.1 hx).2];decide
theorem Zjo(a b:List Nat):val (a++b)=val a+pw a.length*val b:=by
 induction a with
 | nil=>simp[val,Zd1]
 | cons x l ih=>simp only[Qt,val,ih,Qn,Za7];grind
theorem Zgq{l:List Nat}(h:Lt32 l):val l<pw l.length:=by
 induction l with
 | nil=>simp[val,Zd1]
 | cons x l ih=>have:=ih h.tail;have:=h.head;simp only[val,Qn,Za7];omega
theorem Zel(n:Nat):val (Qb n 0)=0:=by
 induction n with
 | zero=>rfl
 | succ n ih=>simp[List.replicate_succ,val,ih]
theorem Zh9{l:List Nat}{k:Nat}(hk:k<l.length)(v:Nat):val (l.set k v)+pw k*(l[k]?.getD 0)=val l+pw k*v:=by
 induction l generalizing k with
 | nil=>simp at hk
 | cons x l ih =>
  cases k with
  | zero=>simp[val,Zd1];omega
  | succ k=>have:=ih (k:=k) (by simpa using hk);simp only[QV,val,QH,Za7];grind
theorem Zac(l:List Nat)(k:Nat):val (l.take (k+1))=val (l.take k)+pw k*(l[k]?.getD 0):=by
 induction l generalizing k with
 | nil=>simp[val]
 | cons x l ih =>
  cases k with
  | zero=>simp[val,Zd1]
  | succ k=>have:=ih k;simp only[List.take_succ_cons,val,QH,Za7];grind
theorem Zad{l:List Nat}{k:Nat}(h:l.length<=k):val (l.take k)=val l:=by rw[Qs h]
theorem Zae(l:List Nat)(k:Nat)(h:k<=l.length):val l=val (l.take k)+pw k*val (l.drop k):=by
 have:=Zjo (l.take k) (l.drop k);rw[List.take_append_drop,Qo,Qv h]at this;exact this
theorem Zar:digits 0=[]:=by unfold digits;simp
theorem Zdq{n:Nat}(h:n≠0):digits n=n%4294967296::digits (n/4294967296):=by rw[digits];simp[h]
theorem Zi(n:Nat):val (digits n)=n:=by
 induction n using QJ with
 | _ n ih =>
  by_cases h:n=0;subst h;rw[Zar];rfl;rw[Zdq h,val,ih _ Gk];omega
theorem Zln(n:Nat):Lt32 (digits n):=by
 induction n using QJ with
 | _ n ih =>
  by_cases h:n=0;subst h;rw[Zar];exact Lt32.nil;rw[Zdq h];exact(ih _ Gk).cons Gk
theorem digits_eq_nil{n:Nat}:digits n=[] ↔ n=0:=by
 constructor;intro h;have:=Zi n;rw[h]at this;exact this.symm;rintro rfl;exact Zar
theorem Zhk(n:Nat):(digits n).getLast?≠some 0:=by
 induction n using QJ with
 | _ n ih =>
  by_cases h:n=0;subst h;rw[Zar];simp;rw[Zdq h];have:=ih (n/4294967296) Gk;by_cases h':n/4294967296=0;rw[h',Zar];simp;omega;obtain⟨y,m,hm⟩:=Qz (λe=>h' (digits_eq_nil.1 e));rw[hm]at this ⊢;simpa using this
theorem Zr(n k:Nat):(digits n).length<=k ↔ n<pw k:=by
 induction k generalizing n with
 | zero =>
  rw[Zd1];constructor;intro h;have:=digits_eq_nil.1 (Qi (Nat.le_zero.1 h));omega;intro h;have:n=0:=Gk;subst this;rw[Zar];simp
 | succ k ih =>
  by_cases h:n=0;subst h;rw[Zar];simp[Zb1];rw[Zdq h,Qn,Nat.succ_le_succ_iff,ih,Za7,Nat.div_lt_iff_lt_mul Gj,QU]
theorem Zcw(n:Nat):n<pw (digits n).length:=(Zr n _).1 (Qa _)
theorem Zhe{n k:Nat}(h:k<(digits n).length):pw k<=n:=by
 rcases Qf n (pw k)with h'|h';have:=(Zr n k).2 h';omega;exact h'
theorem Z5{m n:Nat}(h:m<=n):(digits m).length<=(digits n).length:=(Zr _ _).2 (QW h (Zcw n))
theorem Ztj{l:List Nat}(h:Lt32 l):canon l=digits (val l):=by
 induction l with
 | nil=>rw[val,Zar];rfl
 | cons x l ih =>
  have hx:=h.head;rw[canon,ih h.tail,val];by_cases h0:val l=0
  ·rw[h0,Zar]
   by_cases hx0:x=0;simp[hx0,Zar];simp only[hx0,if_false];rw[Zdq Gk,show (x+4294967296*0)/4294967296=0 by omega,Zar,show (x+4294967296*0)%4294967296=x by omega]
  rw[Zdq (n:=x+4294967296*val l) Gk,show (x+4294967296*val l)/4294967296=val l by omega,show (x+4294967296*val l)%4294967296=x by omega];obtain⟨y,m,hm⟩:=Qz (λe=>h0 (digits_eq_nil.1 e));rw[hm]
theorem Zpi{l:List Nat}(h:Lt32 l)(hl:l.getLast?≠some 0):l=digits (val l):=by
 rw[<- Ztj h]
 induction l with
 | nil=>rfl
 | cons x l ih =>
  cases l with
  | nil=>simp only[canon];simp at hl;simp[hl]
  | cons y m =>
   have:=ih h.tail (by simpa using hl);rw[canon,<- this]
theorem Zgz{l:List Nat}{k:Nat}(hz:∀ j,k<=j->l[j]?.getD 0=0)(hk:k=0 \/ l[k-1]?.getD 0≠0)(hl:Lt32 l):digits (val l)=l.take k:=by
 have hv:val l=val (l.take k):=by
  rcases Qf l.length k with h|h;rw[Qs Gk];rw[Zae l k h]
  have:val (l.drop k)=0:=by
   have:∀ m:List Nat,(∀ j:Nat,m[j]?.getD 0=0)->val m=0:=by
    intro m
    induction m with
    | nil=>intro _;rfl
    | cons x m ih =>
     intro hm;have h0:=hm 0;have:=ih (λj=>by simpa using hm (j+1));simp at h0;simp[val,h0,this]
   exact this _ (λj=>by rw[List.getElem?_drop];exact hz _ Gk)
  rw[this];simp
 rw[hv];refine(Zpi (hl.take k) ?_).symm;rcases hk with rfl|hk;simp;intro h
 have e:k-1<l.length:=by
  rcases Qf (k-1) l.length with h'|h';exact h';rw[Qh h']at hk;simp at hk
 rw[QC,Qo]at h;rw[QX]at h
 split at h
 ·rename_i hlt
  rcases Qf k l.length with h'|h';rw[Qv Gk]at h;rw[h]at hk;simp at hk;have:min k l.length-1=k-1:=Gk;rw[this]at h;rw[h]at hk;simp at hk
 cases h
theorem val_inj{a b:List Nat}(ha:Lt32 a)(hb:Lt32 b)(hl:a.length=b.length)(h:val a=val b):a=b:=by
 induction a generalizing b with
 | nil=>cases b with
  | nil=>rfl
  | cons _ _=>simp at hl
 | cons x a ih=>cases b with
  | nil=>simp at hl
  | cons y b =>
   have hx:=ha.head;have hy:=hb.head;simp only[val]at h;obtain rfl:x=y:=Gk;rw[ih ha.tail hb.tail (by simpa using hl) Gk]
theorem Zxc{a b out:List Nat}{k carry s c':Nat}(hk:k<out.length)(hz:out[k]?.getD 0=0)(hI:val out+pw k*carry=val (a.take k)+val (b.take k))
    (he:s+4294967296*c'=a[k]?.getD 0+b[k]?.getD 0+carry):val (out.set k s)+pw (k+1)*c'=val (a.take (k+1))+val (b.take (k+1)):=by
 have h:=Zh9 hk s;rw[hz]at h;rw[Zac,Zac,Za7];have:pw k*(s+4294967296*c')=pw k*(a[k]?.getD 0+b[k]?.getD 0+carry):=by rw[he]
 grind
theorem Zue{a b out:List Nat}{k borrow s c':Nat}(hk:k<out.length)(hz:out[k]?.getD 0=0)(hI:val out+val (b.take k)=val (a.take k)+pw k*borrow)
    (he:s+b[k]?.getD 0+borrow=a[k]?.getD 0+4294967296*c'):val (out.set k s)+val (b.take (k+1))=val (a.take (k+1))+pw (k+1)*c':=by
 have h:=Zh9 hk s;rw[hz]at h;rw[Zac,Zac,Za7];have:pw k*(s+b[k]?.getD 0+borrow)=pw k*(a[k]?.getD 0+4294967296*c'):=by rw[he]
 grind
theorem getD_set_ne{l:List Nat}{i j:Nat}(v:Nat)(h:i≠j):(l.set i v)[j]?.getD 0=l[j]?.getD 0:=by rw[List.getElem?_set_ne h]
theorem Zlk{l:List Nat}{i:Nat}(v:Nat)(h:i<l.length):(l.set i v)[i]?.getD 0=v:=by rw[QL h];rfl
theorem getD_none{l:List Nat}{i:Nat}(h:l.length<=i):l[i]?.getD 0=0:=by rw[Qh h];rfl
theorem Zd5(n i:Nat):(Qb n 0)[i]?.getD 0=0:=by
 rw[QI];split <;> rfl
theorem Zvb{a b out:List Nat}{i k carry s q:Nat}(hk:i+k<out.length)
    (hI:val out+pw (i+k)*carry=val (a.take i)*val b+pw i*(a[i]?.getD 0*val (b.take k)))
    (he:s+4294967296*q=carry+a[i]?.getD 0*b[k]?.getD 0+out[i+k]?.getD 0) :
    val (out.set (i+k) s)+pw (i+(k+1))*q=val (a.take i)*val b+pw i*(a[i]?.getD 0*val (b.take (k+1))):=by
 have h:=Zh9 hk s;rw[Zac,show i+(k+1)=(i+k)+1 by omega,Za7];have e1:pw (i+k)*(s+4294967296*q)=pw (i+k)*(carry+a[i]?.getD 0*b[k]?.getD 0+out[i+k]?.getD 0):=by rw[he]
 have e2:=Zcx i k;generalize pw (i+k)=P at *;subst e2
 grind
theorem Zyr{a b out:List Nat}{i carry:Nat}(hk:i+b.length<out.length)(hz:out[i+b.length]?.getD 0=0)
    (hI:val out+pw (i+b.length)*carry=val (a.take i)*val b+pw i*(a[i]?.getD 0*val b)) :
    val (out.set (i+b.length) carry)=val (a.take (i+1))*val b:=by
 have h:=Zh9 hk carry;rw[hz]at h;rw[Zac]
 grind
theorem Z1j{x y z c s q:Nat}(hx:x<4294967296)(hy:y<4294967296)(hz:z<4294967296)(hc:c<4294967296)(he:s+4294967296*q=c+x*y+z):q<4294967296:=by
 have:x*y<=4294967295*4294967295:=QN Gk Gk;omega
open Go.RowKit
theorem Zb{p:Prop}(h:p):Hid p:=h
theorem Zqs(a:Addr)(n:Nat):(a.add n).block=a.block:=by unfold Addr.add;split <;> rfl
theorem Zg(g o n:Nat):(⟨g,o,none⟩:Addr).add n=⟨g,o+n,none⟩:=by
 unfold Addr.add;split
 ·subst_vars;rfl
 rfl
theorem Zo{w:World}{p:Addr}{v:Value}(h:w.cell? p=some v):p.block<w.heap.size:=by
 unfold World.cell? at h;rcases Qf p.block w.heap.size with f|e;exact f;rw[QM e]at h;cases h
def Blk(w:World)(g:Nat)(t:TypeId)(cs:Array Value):Prop:=w.heap[g]?=some (.cells cs t (0,0))
section
variable{w w':World}{g:Nat}{t:TypeId}{cs:Array Value}
theorem Blk.lt(h:Blk w g t cs):g<w.heap.size:=by
 rcases Qf g w.heap.size with f|e;exact f;unfold Blk at h;rw[QM e]at h;cases h
theorem Blk.cell(h:Blk w g t cs)(i:Nat):w.cell? ⟨g,i,none⟩=cs[i]?:=cell_of_row w g i cs t (0,0) h
theorem Blk.frozen(h:Blk w g t cs)(i:Nat):w.frozen? ⟨g,i,none⟩=false:=by
 unfold Blk at h;simp[World.frozen?,h]
theorem Blk.new(w:World)(t:TypeId)(cs:Array Value):Blk (w.alloc (.cells cs t)) w.heap.size t cs:=heap_alloc_new w _
theorem Blk.drewN(h:Blk w g t cs)(n:Nat):Blk (w.drewN n) g t cs:=h
theorem Blk.alloc(h:Blk w g t cs)(o:Obj):Blk (w.alloc o) g t cs:=(Below.heap_alloc w o g h.lt).trans h
theorem Blk.set_(h:Blk w g t cs)(i:Nat)(u:Value):Blk (w.setCell ⟨g,i,none⟩ u) g t (cs.setIfInBounds i u):=by
 unfold Blk at h ⊢;simp[World.setCell,Array.getElem?_modify,h]
theorem Blk.far(h:Blk w g t cs){p:Addr}(hp:g≠p.block)(u:Value):Blk (w.setCell p u) g t cs:=(Below.heap_setCell w p u g hp).trans h
theorem Blk.below{B:Nat}(h:Blk w g t cs)(hb:Below B w w')(hg:g<B):Blk w' g t cs:=(hb.block g hg).trans h
end
theorem Zpk{A:Option Addr}{n n' c:Nat}(h:n=n'):Ending.returned (.slice A n c)=.returned (.slice A n' c):=by rw[h]
theorem Zic{k:IntKind}{a b:Int}(h:a=b):Ending.returned (.int k a)=.returned (.int k b):=by rw[h]
theorem Ze8{a b:Bool}(h:a=b):Ending.returned (.bool a)=.returned (.bool b):=by rw[h]
abbrev limb(x:Nat):Value:=.int .u32 (x:Int)
def Zz(l:List Nat):Array Value:=(l.map limb).toArray
theorem Zas(l:List Nat)(i:Nat)(h:i<l.length):(Zz l)[i]?=some (limb (l[i]?.getD 0)):=by
 simp[Zz,Qc h]
theorem Zb2(l:List Nat)(i v:Nat):(Zz l).setIfInBounds i (limb v)=Zz (l.set i v):=by
 simp[Zz,List.map_set]
def Lim(w:World)(A:Option Addr)(n c:Nat)(l:List Nat):Prop:=
 l.length=n/\n<=c/\c<=maxLen/\Lt32 l/\(0<n->∃ b o,A=some ⟨b,o,none⟩/\∀ k,k<n->w.cell? ⟨b,o+k,none⟩=some (limb (l[k]?.getD 0)))
section
variable{w w':World}{A:Option Addr}{n c:Nat}{l:List Nat}
theorem Lim.len(h:Lim w A n c l):l.length=n:=h.1
theorem Lim.lt(h:Lim w A n c l):Lt32 l:=h.2.2.2.1
theorem Lim.nil(w:World)(A:Option Addr)(c:Nat)(hc:c<=maxLen):Lim w A 0 c []:=⟨rfl,Qe _,hc,Lt32.nil,λh=>absurd h Gk⟩
theorem Lim.at_(h:Lim w A n c l){k:Nat}(hk:k<n):∃ b o,A=some ⟨b,o,none⟩/\w.cell? ⟨b,o+k,none⟩=some (limb (l[k]?.getD 0)):=by
 obtain⟨b,o,e,hc⟩:=h.2.2.2.2 Gk;exact⟨b,o,e,hc k hk⟩
theorem Lim.cell{b o:Nat}(h:Lim w (some ⟨b,o,none⟩) n c l){k:Nat}(hk:k<n):w.cell? ⟨b,o+k,none⟩=some (limb (l[k]?.getD 0)):=by
 obtain⟨b',o',e,hc⟩:=h.at_ hk;cases e;exact hc
theorem Lim.keep(h:Lim w A n c l)(hk:∀ p:Addr,p.block<w.heap.size->w'.cell? p=w.cell? p):Lim w' A n c l:=
 ⟨h.1,h.2.1,h.2.2.1,h.2.2.2.1,λhn=>by
  obtain⟨b,o,e,hc⟩:=h.2.2.2.2 hn;exact⟨b,o,e,λk hk'=>(hk _ (Zo (hc k hk'))).trans (hc k hk')⟩⟩
theorem Lim.below(h:Lim w A n c l)(hb:Below w.heap.size w w'):Lim w' A n c l:=h.keep λ_ hp=>hb.cell hp
theorem Lim.drew(h:Lim w A n c l):Lim w.drew A n c l:=h
theorem Lim.drewN(h:Lim w A n c l)(k:Nat):Lim (w.drewN k) A n c l:=h
theorem Lim.alloc(h:Lim w A n c l)(o:Obj):Lim (w.alloc o) A n c l:=h.below ((Qd _ _).alloc (Qa _) _)
theorem Lim.take(h:Lim w A n c l){k:Nat}(hk:k<=n):Lim w A k c (l.take k):=
 ⟨by rw[Qo,h.len];omega,by have:=h.2.1;omega,h.2.2.1,h.lt.take k,λh0=>by
  obtain⟨b,o,e,hc⟩:=h.2.2.2.2 Gk;refine⟨b,o,e,λj hj=>?_⟩;rw[hc j Gk,QX,Gx hj]⟩
theorem Lim.lt_pw(h:Lim w A n c l):val l<pw n:=by have:=Zgq h.lt;rw[h.len]at this;exact this
theorem Lim.of_blk{g:Nat}{t:TypeId}(h:Blk w g t (Zz l))(hl:Lt32 l)(hn:l.length<=maxLen):Lim w (some ⟨g,0,none⟩) l.length l.length l:=
 ⟨rfl,Qa _,hn,hl,λ_=>⟨_,_,rfl,λk hk=>by rw[QF,h.cell,Zas l k hk]⟩⟩
theorem Lim.canon(h:Lim w A n c l):Lim w A (digits (val l)).length c (digits (val l))/\(digits (val l)).length<=n:=by
 have e:(digits (val l)).length<=n:=(Zr _ _).2 h.lt_pw;have ht:=h.take e
 have:l.take (digits (val l)).length=digits (val l):=by
  have hv:val (l.take (digits (val l)).length)=val l:=by
   have h1:=Zae l (digits (val l)).length (by rw[h.len];exact e);have h2:=Zcw (val l);rcases Qj (val (l.drop (digits (val l)).length))with h0|h0;rw[h0]at h1;omega;have:=Qx (pw (digits (val l)).length) h0;omega
  refine val_inj (h.lt.take _) (Zln _) ?_ ?_;rw[Qo,h.len];omega;rw[hv,Zi]
 rw[this]at ht;exact⟨ht,e⟩
end
def OutL(w:World)(P:List Nat->Prop)(e:Ending)(w':World):Prop:=
 ∃ A n c l,e=.returned (.slice A n c)/\Lim w' A n c l/\P l/\Below w.heap.size w w'
theorem Zgs{P:Program}(t e:TypeId){i:TypeInfo}(ht:P.underlying t=some (.slice e))(hi:P.info? e=some i)(hz:i.zero=some (.int .u32 0))(hs:i.size=1)(hb:i.bytes=4)
    (x:Int) (n:Nat) (hx:x=n) (hn:n<=70368744177664) (W:World) :
    (Instr.makeSlice t (.int .i64 x) (.int .i64 x)).run P W=.ok (.slice (some ⟨W.heap.size,0,none⟩) n n) (W.alloc (.cells (Zz (Qb n 0)) e)):=by
 subst hx;have hr:=run_make (P:=P) W t e i (.int .u32 0) ht hi hz .i64 .i64 n n Gk Gk (by rw[hb];omega) Gk;simp only[Ya]at hr;rw[hr]
 have:madeCells (Value.int .u32 0).cells (n*i.size)=Zz (Qb n 0):=by
  rw[hs,Nat.mul_one];apply Array.toList_inj.1;rw[show (Value.int .u32 0).cells=#[.int .u32 0] from rfl,toList_madeCells_one];simp[Zz]
 rw[this]
def sg(neg:Bool)(v:Nat):Int:=if neg then -(v:Int)else v
def Wd(w:World)(neg:Bool)(A:Option Addr)(n c:Nat)(z:Int):Prop:=neg=decide (z<0)/\n<=4096/\Lim w A n c (digits z.natAbs)
def ResP(w':World)(z:Int)(neg:Bool)(A:Option Addr)(n c:Nat)(code:Int):Prop:=
 (z.natAbs<pw 4096/\code=0/\Wd w' neg A n c z) \/ (pw 4096<=z.natAbs/\code=16/\neg=false/\A=none/\n=0/\c=0)
def ResW(w:World)(z:Int)(e:Ending)(w':World):Prop:=
 Below w.heap.size w w'/\∃ neg A n c code,e=.returned (.tuple #[.agg #[.bool neg,.slice A n c],.int .i64 code])/\ResP w' z neg A n c code
section
variable{w w':World}{neg:Bool}{A:Option Addr}{n c:Nat}{z:Int}
theorem Wd.below(h:Wd w neg A n c z)(hb:Below w.heap.size w w'):Wd w' neg A n c z:=⟨h.1,h.2.1,h.2.2.below hb⟩
theorem Wd.lim(h:Wd w neg A n c z):Lim w A n c (digits z.natAbs):=h.2.2
theorem Wd.small(h:Wd w neg A n c z):z.natAbs<pw 4096:=by
 have:=h.2.2.len;exact(Zr _ _).1 (by rw[this];exact h.2.1)
theorem Wd.zero(w:World):Wd w false none 0 0 0:=⟨by simp,by omega,by rw[show digits (Int.natAbs 0)=[] from Zar];exact Lim.nil _ _ _ (Qe _)⟩
theorem Wd.sgEq(h:Wd w neg A n c z):sg neg (val (digits z.natAbs))=z:=by
 rw[h.1,Zi];unfold sg;split <;> simp_all <;> omega
theorem Z8(neg:Bool)(v:Nat):(sg neg v).natAbs=v:=by unfold sg;split <;> simp
theorem Zm4(neg:Bool)(v:Nat):decide (sg neg v<0)=(neg && decide (0<v)):=by
 unfold sg;cases neg <;> simp
theorem length_digits_pos{v:Nat}:0<(digits v).length ↔ 0<v:=by
 constructor
 ·intro h;rcases Qj v with rfl|h'
  rw[Zar]at h;simp at h;exact h'
 intro h;rcases Qj (digits v).length with h'|h';have:=(Zr v 0).1 Gk;rw[Zd1]at this;omega;exact h'
theorem Wd.made{l:List Nat}(h:Lim w A n c l)(neg:Bool)(hs:val l<pw 4096):Wd w (neg && decide (0<(digits (val l)).length)) A (digits (val l)).length c (sg neg (val l)):=by
 refine⟨?_,(Zr _ _).2 hs,?_⟩;rw[Zm4];congr 1;simp[length_digits_pos];rw[Z8];exact h.canon.1
end
theorem FK{G:Prop}(h:G:=by
 have h:x*y<=4294967295*4294967295:=Nat.mul_le_mul Gk Gk;have e:(x:Int)*y=((x*y:Nat):Int):=Gh;rw[e];generalize x*y=t at *;simp only[IntKind.wrap_u64];omega):G:=h
theorem Zwx{c x y z:Nat}(hc:c<4294967296)(hx:x<4294967296)(hy:y<4294967296)(hz:z<4294967296) :
    IntKind.u64.wrap ((c:Int)+IntKind.u64.wrap (IntKind.u64.wrap ((x:Int)*y)+z))=((c+x*y+z:Nat):Int):=by
 exact FK
theorem Zn6(t:Nat):(t:Int)/4294967296=((t/4294967296:Nat):Int):=by omega
theorem Zmt(t:Nat):(t:Int)%4294967296=((t%4294967296:Nat):Int):=by omega
theorem Zc0{W w1:World}(hb:Below W.heap.size W w1):(∀ b o,b<W.heap.size->w1.cell? ⟨b,o,none⟩=W.cell? ⟨b,o,none⟩)/\(∀ b o,b<W.heap.size->w1.frozen? ⟨b,o,none⟩=W.frozen? ⟨b,o,none⟩):=
 ⟨λb o h=>hb.cell (p:=⟨b,o,none⟩) h,λb o h=>hb.frozen (p:=⟨b,o,none⟩) h⟩
theorem Za{W w1:World}{p:Addr}{v:Value}(hb:Below W.heap.size W w1)(h:W.cell? p=some v):w1.cell? p=some v:=(hb.cell (Zo h)).trans h
theorem Zl{W w1:World}{p:Addr}{v:Value}(hb:Below W.heap.size W w1)(h:W.cell? p=some v)(hf:W.frozen? p=false):w1.frozen? p=false:=(hb.frozen (Zo h)).trans hf
structure WE where
 neg:Bool
 A:Option Addr
 n:Nat
 c:Nat
 l:List Nat
def WE.num(e:WE):Int:=sg e.neg (val e.l)
def okW(neg:Bool)(l:List Nat):Bool:=decide (l.length<=4096) && decide (l.getLast?≠some 0) && !(l.isEmpty && neg)
def WE.ok(e:WE):Bool:=okW e.neg e.l
theorem Zwc{neg:Bool}{l:List Nat}(h:4096<l.length):okW neg l=false:=by unfold okW;simp;omega
theorem Zj4{l:List Nat}(h:0<l.length):l.getLast?=some (l[l.length-1]?.getD 0):=by
 rw[QC,Qc Gk];rfl
theorem Zsi{neg:Bool}{l:List Nat}(h:0<l.length)(h':l[l.length-1]?.getD 0=0):okW neg l=false:=by
 unfold okW;rw[Zj4 h,h'];simp
theorem Z0d{neg:Bool}{l:List Nat}(h:0<l.length)(h1:l.length<=4096)(h':l[l.length-1]?.getD 0≠0):okW neg l=true:=by
 have e:l.isEmpty=false:=by cases l <;> simp_all
 unfold okW;rw[Zj4 h];simp[h1,e,h']
theorem Zp0{neg:Bool}{l:List Nat}(h:l.length=0):okW neg l=!neg:=by
 have:l=[]:=Qi h;subst this;simp[okW]
theorem Zjv{neg:Bool}{l:List Nat}(hl:Lt32 l):okW neg l=true ↔ neg=decide (sg neg (val l)<0)/\l.length<=4096/\l=digits (sg neg (val l)).natAbs:=by
 rw[Z8,Zm4];constructor
 ·intro h
  unfold okW at h;simp only[Yh,decide_eq_true_eq,Yb,QO]at h;obtain⟨⟨h1,h2⟩,h3⟩:=h;have h4:=Zpi hl h2;refine⟨?_,h1,h4⟩;cases neg with
  | false=>rfl
  | true =>
   have:l ≠ []:=λe=>by subst e;simp at h3
   have:0<val l:=by
    rw[<- length_digits_pos,<- h4];exact List.length_pos_iff.2 this
   simp[this]
 rintro⟨h1,h2,h3⟩;unfold okW;simp only[Yh,decide_eq_true_eq,Yb,QO];refine⟨⟨h2,by rw[h3];exact Zhk _⟩,λh=>?_⟩;have:l=[]:=by simpa using h
 subst this;rw[h1];simp[val]
theorem Wd.ok{w:World}{neg:Bool}{A:Option Addr}{n c:Nat}{z:Int}(h:Wd w neg A n c z):okW neg (digits z.natAbs)=true:=by
 rw[Zjv (Zln _),h.sgEq];exact⟨h.1,by rw[h.2.2.len];exact h.2.1,rfl⟩
theorem Wd.of_ok{w:World}{neg:Bool}{A:Option Addr}{n c:Nat}{l:List Nat}(h:Lim w A n c l)(hk:okW neg l=true):Wd w neg A n c (sg neg (val l)):=by
 obtain⟨h1,h2,h3⟩:=(Zjv h.lt).1 hk;refine⟨h1,by rw[<- h.len];exact h2,?_⟩;rw[<- h3];exact h
def WL(w:World)(A:Option Addr)(n c:Nat)(es:List WE):Prop:=
 es.length=n/\n<=c/\c<=maxLen/\(0<n->∃ b o,A=some ⟨b,o,none⟩/\∀ k e,es[k]?=some e->w.cell? ⟨b,o+k*2,none⟩=some (.bool e.neg)/\w.cell? ⟨b,o+k*2+1,none⟩=some (.slice e.A e.n e.c)) /\
  ∀ e ∈ es,Lim w e.A e.n e.c e.l
section
variable{w w':World}{A:Option Addr}{n c:Nat}{es:List WE}
theorem WL.len(h:WL w A n c es):es.length=n:=h.1
theorem WL.at_(h:WL w A n c es){k:Nat}(hk:k<n):∃ b o e,A=some ⟨b,o,none⟩/\es[k]?=some e/\w.cell? ⟨b,o+k*2,none⟩=some (.bool e.neg)/\w.cell? ⟨b,o+k*2+1,none⟩=some (.slice e.A e.n e.c)/\Lim w e.A e.n e.c e.l:=by
 obtain⟨b,o,e,hc⟩:=h.2.2.2.1 Gk;have hl:k<es.length:=by rw[h.1];exact hk
 have:=hc k _ (Qc hl);exact⟨b,o,es[k],e,Qc hl,this.1,this.2,h.2.2.2.2 _ (QE hl)⟩
theorem WL.keep(h:WL w A n c es)(hk:∀ p:Addr,p.block<w.heap.size->w'.cell? p=w.cell? p):WL w' A n c es:=
 ⟨h.1,h.2.1,h.2.2.1,λhn=>by
  obtain⟨b,o,e,hc⟩:=h.2.2.2.1 hn;exact⟨b,o,e,λk e' he=>⟨(hk _ (Zo (hc k e' he).1)).trans (hc k e' he).1,(hk _ (Zo (hc k e' he).2)).trans (hc k e' he).2⟩⟩,
  λe he=>(h.2.2.2.2 e he).keep hk⟩
theorem WL.below(h:WL w A n c es)(hb:Below w.heap.size w w'):WL w' A n c es:=h.keep λ_ hp=>hb.cell hp
end
theorem WL.one{w:World}{neg:Bool}{A:Option Addr}{n c:Nat}{l:List Nat}(h:Lim w A n c l)(t:TypeId) :
    WL (w.alloc (.cells #[.bool neg,.slice A n c] t)) (some ⟨w.heap.size,0,none⟩) 1 1 [⟨neg,A,n,c,l⟩]:=
 ⟨rfl,by omega,by unfold maxLen;omega,λ_=>⟨_,_,rfl,λk e he=>by
  cases k with
  | zero =>
   simp at he;subst he;have hb:=Blk.new w t #[.bool neg,.slice A n c];exact⟨hb.cell 0,hb.cell 1⟩
  | succ k=>simp at he⟩,λe he=>by simp at he;subst he;exact h.alloc _⟩
theorem WL.two{w:World}{neg neg':Bool}{A A':Option Addr}{n c n' c':Nat}{l l':List Nat}(h:Lim w A n c l)(h':Lim w A' n' c' l')(t:TypeId) :
    WL (w.alloc (.cells #[.bool neg,.slice A n c,.bool neg',.slice A' n' c'] t)) (some ⟨w.heap.size,0,none⟩) 2 2 [⟨neg,A,n,c,l⟩,⟨neg',A',n',c',l'⟩]:=
 ⟨rfl,by omega,by unfold maxLen;omega,λ_=>⟨_,_,rfl,λk e he=>by
  have hb:=Blk.new w t #[.bool neg,.slice A n c,.bool neg',.slice A' n' c']
  match k with
  | 0=>simp at he;subst he;exact⟨hb.cell 0,hb.cell 1⟩
  | 1=>simp at he;subst he;exact⟨hb.cell 2,hb.cell 3⟩
  | k+2=>simp at he⟩,λe he=>by
   simp at he;rcases he with rfl|rfl;exact h.alloc _;exact h'.alloc _⟩
theorem Zc{W w1:World}{g:Nat}{t:TypeId}{cs:Array Value}(hb:Below W.heap.size W w1)(h:Blk W g t cs):Blk w1 g t cs:=h.below hb h.lt
def NoLimb(cs:Array Value):Prop:=∀ (i x:Nat),cs[i]?≠some (limb x)
theorem NoLimb.box(b:Bool)(A:Option Addr)(n c:Nat):NoLimb #[.bool b,.slice A n c]:=λi x=>by
 match i with
 | 0=>simp
 | 1=>simp
 | i+2=>simp
theorem Lim.set_box{w:World}{A:Option Addr}{n c:Nat}{l:List Nat}(h:Lim w A n c l){g:Nat}{t:TypeId}{cs:Array Value}(hb:Blk w g t cs)(hcs:NoLimb cs)(i:Nat)(u:Value):Lim (w.setCell ⟨g,i,none⟩ u) A n c l:=
 ⟨h.1,h.2.1,h.2.2.1,h.2.2.2.1,λhn=>by
  obtain⟨b,o,e,hc⟩:=h.2.2.2.2 hn;refine⟨b,o,e,λk hk=>(Ql w _ _ u ?_).trans (hc k hk)⟩;intro he;have f:b=g:=by cases he;rfl
  have:=hc k hk;rw[f,hb.cell]at this;exact hcs _ _ this⟩
theorem ResP.set_box{w:World}{z:Int}{neg:Bool}{A:Option Addr}{n c:Nat}{code:Int}(h:ResP w z neg A n c code){g:Nat}{t:TypeId}{cs:Array Value}(hb:Blk w g t cs)(hcs:NoLimb cs)(i:Nat)(u:Value):ResP (w.setCell ⟨g,i,none⟩ u) z neg A n c code:=by
 rcases h with ⟨h1,h2,h3⟩|h;exact .inl ⟨h1,h2,h3.1,h3.2.1,h3.2.2.set_box hb hcs i u⟩;exact .inr h
theorem ResW.box{w w3:World}{z:Int}{neg:Bool}{A:Option Addr}{n c:Nat}{code:Int}{g:Nat}{t:TypeId}{b0:Bool}{A0:Option Addr}{n0 c0:Nat}(hP:ResP w3 z neg A n c code)(hB:Below w.heap.size w w3)(hg:w.heap.size<=g)(hb:Blk w3 g t #[.bool b0,.slice A0 n0 c0]) :
    ResW w z (.returned (.tuple #[.agg #[.bool neg,.slice A n c],.int .i64 code])) ((w3.setCell ⟨g,0,none⟩ (.bool neg)).setCell ⟨g,1,none⟩ (.slice A n c)):=by
 have e:Blk (w3.setCell ⟨g,0,none⟩ (.bool neg)) g t #[.bool neg,.slice A0 n0 c0]:=hb.set_ 0 (.bool neg);exact⟨(hB.setCell (p:=⟨g,0,none⟩) hg _).setCell (p:=⟨g,1,none⟩) hg _,_,_,_,_,_,rfl,(hP.set_box hb (NoLimb.box _ _ _ _) _ _).set_box e (NoLimb.box _ _ _ _) _ _⟩
def PolyL(w:World)(A:Option Addr)(n c:Nat)(xs:List Int):Prop:=∃ es,WL w A n c es/\es.map WE.num=xs/\∀ e ∈ es,e.ok=true
theorem WE.wd{w:World}{e:WE}(h:Lim w e.A e.n e.c e.l)(hk:e.ok=true):Wd w e.neg e.A e.n e.c e.num:=Wd.of_ok h hk
def Reads(w:World)(B size:Nat)(A:Option Addr)(n:Nat)(xs:List Value):Prop:=
 xs.length=n*size/\(0<n->∃ ad,A=some ad/\ad.block<B/\∀ j u,xs[j]?=some u->w.cell? (ad.add j)=some u)
section
variable{w w':World}{B B' size n:Nat}{A:Option Addr}{xs:List Value}
theorem Reads.keep(h:Reads w B size A n xs)(hk:∀ p:Addr,p.block<B->w'.cell? p=w.cell? p):Reads w' B size A n xs:=
 ⟨h.1,λhn=>by
  obtain⟨ad,e,hb,hc⟩:=h.2 hn;exact⟨ad,e,hb,λj u hu=>(hk _ (by rw[Zqs];exact hb)).trans (hc j u hu)⟩⟩
theorem Reads.alloc(h:Reads w B size A n xs)(hB:B<=w.heap.size)(o:Obj):Reads (w.alloc o) B size A n xs:=h.keep λp hp=>World.cell?_alloc_lt w o p Gk
end
section
variable{P:Program}(w:World)
theorem Zcj(base:Nat)(t ty e:TypeId)(i:TypeInfo)(size:Nat)(ht:P.underlying t=some (.slice e))(hi:P.info? e=some i)
    (v:Value) (n:Nat) (xs:List Value) (hown:w.ownsRow base e size v n xs) (c:Nat):(Qw #[t,t] ty #[v,.slice none 0 c]).run P w=.ok v w:=by
 rcases hown.2 with ⟨rfl,rfl⟩|⟨g,cap,cur,rfl,_,_,f,_⟩;simp[Qw,run_underlying ht,sizeOf,typeInfo,hi,Builtin.lenOf,Builtin.firstCells];simp[Qw,run_underlying ht,sizeOf,typeInfo,hi,Builtin.lenOf,Builtin.firstCells,f,storeCells]
theorem Zma(base:Nat)(t ty e:TypeId)(i:TypeInfo)(z:Value)(size bytes:Nat)(ht:P.underlying t=some (.slice e))(hi:P.info? e=some i)(hz:i.zero=some z)
    (hsize:i.size=size) (hby:i.bytes=bytes) (hzs:z.cells.size=size) (hsz:0<size)
    (v:Value) (n:Nat) (xs:List Value) (hown:w.ownsRow base e size v n xs)
    (B:Nat) (A:Option Addr) (m c:Nat) (news:List Value) (hr:Reads w B size A m news) (h1:∀ u ∈ news,u.oneCell'=true)
    (h63:n+m<=maxLen) (hbytes:(n+m)*bytes<=140737488355328) (hbase:base<=w.heap.size) :
    ∃ v' w',(Qw #[t,t] ty #[v,.slice A m c]).run P w=.ok v' w'/\w'.ownsRow base e size v' (n+m) (xs++news)/\w.grownBy w' v.ownBlock /\
     (v'.ownBlock=v.ownBlock \/ v'.ownBlock=some w.heap.size):=by
 rcases A with _|ad
 ·have hm:m=0:=by
    rcases Qj m with h0|h0;exact h0;obtain⟨ad,h,_⟩:=hr.2 h0;cases h
  subst hm;have hn:news=[]:=Qi (by simpa using hr.1);subst hn;exact⟨v,w,Zcj w base t ty e i size ht hi v n xs hown c,by simpa using hown,World.grownBy.refl w _,.inl rfl⟩
 have f:∀ j u,news[j]?=some u->w.cell? (ad.add j)=some u:=by
   intro j u hu;rcases Qj m with h0|h0
   ·subst h0
    have hn:news=[]:=Qi (by simpa using hr.1);subst hn;simp at hu
   obtain⟨y,h,_,hc⟩:=hr.2 h0;injection h with h
   subst h;exact hc j u hu
 obtain⟨v',w',o,h2,h3,_,h5⟩:=run_append_own_at (P:=P) w base t ty e i z size bytes ht hi hz hsize hby hzs hsz v n xs hown ad m c news hr.1 f h1 h63 hbytes hbase;exact⟨v',w',o,h2,h3,h5⟩
theorem Zoj{o:Oper}{a:Act}{K:Act->World->Prop}{Q:Exit->Act->World->Prop}(s x:Operand)(t:TypeId)
    (ho:o.op=.call { callee:=.builtin .append,args:=#[s,x],argTypes:=#[t,t] })
    (base:Nat) (e:TypeId) (i:TypeInfo) (z:Value) (size bytes:Nat) (ht:P.underlying t=some (.slice e)) (hi:P.info? e=some i) (hz:i.zero=some z)
    (hsize:i.size=size) (hby:i.bytes=bytes) (hzs:z.cells.size=size) (hsz:0<size)
    (v:Value) (n:Nat) (xs:List Value) (hs:a.eval s=v) (hown:w.ownsRow base e size v n xs)
    (B:Nat) (A:Option Addr) (m c:Nat) (news:List Value) (hx:a.eval x=.slice A m c) (hr:Reads w B size A m news) (h1:∀ u ∈ news,u.oneCell'=true)
    (h63:n+m<=maxLen) (hbytes:(n+m)*bytes<=140737488355328) (hbase:base<=w.heap.size)
    (h:∀ v' w',w'.ownsRow base e size v' (n+m) (xs++news)->w.grownBy w' v.ownBlock->(v'.ownBlock=v.ownBlock \/ v'.ownBlock=some w.heap.size)->K (a.put o.dst v') w'):o.wp P a w K Q:=by
 obtain⟨v',w',f,h2,h3,h4⟩:=Zma (P:=P) w base t o.type e i z size bytes ht hi hz hsize hby hzs hsz v n xs hown B A m c news hr h1 h63 hbytes hbase;unfold Oper.wp execOp;simp only[ho,resolve,invoke,builtin,Sem.run_bind,Sem.run_pure,Result.andThen_ok,List.map_toArray,List.map_cons,List.map_nil,hs,hx,f];exact h v' w' h2 h3 h4
theorem Zx{ops:Array Oper}{rest:List Oper}{o:Oper}{a:Act}{Q:Exit->Act->World->Prop}(hgd:o.guard=none)(s x:Operand)(t:TypeId)
    (ho:o.op=.call { callee:=.builtin .append,args:=#[s,x],argTypes:=#[t,t] })
    (base:Nat) (e:TypeId) (i:TypeInfo) (z:Value) (size bytes:Nat) (ht:P.underlying t=some (.slice e)) (hi:P.info? e=some i) (hz:i.zero=some z)
    (hsize:i.size=size) (hby:i.bytes=bytes) (hzs:z.cells.size=size) (hsz:0<size)
    (v:Value) (n:Nat) (xs:List Value) (hs:a.eval s=v) (hown:w.ownsRow base e size v n xs)
    (B:Nat) (A:Option Addr) (m c:Nat) (news:List Value) (hx:a.eval x=.slice A m c) (hr:Reads w B size A m news) (h1:∀ u ∈ news,u.oneCell'=true)
    (h63:n+m<=maxLen) (hbytes:(n+m)*bytes<=140737488355328) (hbase:base<=w.heap.size)
    (h:∀ v' w',w'.ownsRow base e size v' (n+m) (xs++news)->w.grownBy w' v.ownBlock->(v'.ownBlock=v.ownBlock \/ v'.ownBlock=some w.heap.size)->wpList P ops Q rest (a.put o.dst v') w'):wpList P ops Q (o::rest) a w:=
 wpList_plain hgd λ_ hK=>Zoj w s x t ho base e i z size bytes ht hi hz hsize hby hzs hsz v n xs hs hown B A m c news hx hr h1 h63 hbytes hbase λv' w' h2 h3 h4=>hK _ _ (h v' w' h2 h3 h4)
end
theorem Lim.reads{w:World}{A:Option Addr}{n c:Nat}{l:List Nat}(h:Lim w A n c l):Reads w w.heap.size 1 A n (l.map limb):=
 ⟨by simp[h.len],λhn=>by
  obtain⟨b,o,e,hc⟩:=h.2.2.2.2 hn;refine⟨_,e,Zo (hc 0 hn),λj u hu=>?_⟩;rw[Zg]
  have hj:j<n:=by
   rcases Qf j n with h'|h';exact h';rw[Qh (by simp[h.len];exact h')]at hu;cases hu
  rw[hc j hj];rw[Yc,Qc (by rw[h.len];exact hj)]at hu;rw[Qc (by rw[h.len];exact hj)];simpa using hu⟩
def OwnL(t:TypeId)(w:World)(base:Nat)(v:Value)(l:List Nat):Prop:=w.ownsRow base t 1 v l.length (l.map limb)/\Lt32 l
theorem OwnL.nil(t:TypeId)(w:World)(base:Nat):OwnL t w base (.slice none 0 0) []:=⟨World.ownsRow_nil _ _ _ _,Lt32.nil⟩
theorem FU{G:Prop}(h:G:=by
 have h3:(cur.toList.take (l.length*1))[k]?=(l.map limb)[k]?:=by rw[ht]
 rw[List.getElem?_take,Gx Gk,List.getElem?_map,List.getElem?_eq_getElem hk]at h3;rw[List.getElem?_eq_getElem hk];simpa using h3):G:=h
theorem OwnL.lim{t:TypeId}{w:World}{base:Nat}{v:Value}{l:List Nat}(h:OwnL t w base v l):∃ A c,v=.slice A l.length c/\Lim w A l.length c l:=by
 obtain⟨h1,h2⟩:=h;rcases h1.2 with ⟨hv,h0⟩|⟨g,cap,cur,hv,_,hh,e,f,o,ht⟩
 ·have:l=[]:=Qi h0
  subst this;exact⟨none,0,hv,Lim.nil _ _ _ (Qe _)⟩
 refine⟨_,cap,hv,rfl,e,f,h2,λ_=>⟨g,0,rfl,λk hk=>?_⟩⟩;rw[QF,cell_of_row w g k cur t (0,0) hh];exact FU
theorem OwnL.append{t:TypeId}{w':World}{base:Nat}{v':Value}{l m:List Nat}{n k:Nat}(hn:n=l.length)(hk:k=m.length)(h:w'.ownsRow base t 1 v' (n+k) (l.map limb++m.map limb))(hl:Lt32 l)(hm:Lt32 m):OwnL t w' base v' (l++m):=by
 subst hn hk;refine⟨?_,hl.append hm⟩;rw[List.length_append,List.map_append];exact h
theorem OwnL.row_ge{t:TypeId}{w:World}{base:Nat}{v:Value}{l:List Nat}(h:OwnL t w base v l):∀ k,v.ownBlock=some k->base<=k:=λk hk=>(h.1.lt k hk).1
theorem Zek(l:List Nat):∀ u ∈ l.map limb,u.oneCell'=true:=λu hu=>by
 obtain⟨x,_,rfl⟩:=List.mem_map.1 hu;rfl
theorem Zla(w:World)(t:TypeId)(size:Nat):(w.alloc (.cells #[] t)).ownsRow w.heap.size t size (.slice (some ⟨w.heap.size,0,none⟩) 0 0) 0 []:=by
 have:=World.ownsRow_lit (base:=w.heap.size) (e:=t) (size:=size) w #[] 0 (Qa _) (Qe _) Gh;simpa using this
theorem OutL.of_append{t:TypeId}{w w1 wb:World}{v1:Value}{m:List Nat}{k:Nat}{P:List Nat->Prop}{row:Option Nat}(h:w1.ownsRow w.heap.size t 1 v1 (0+k) ([]++m.map limb))(hk:m.length=k)(hm:Lt32 m)
    (hB:Below w.heap.size w wb) (hg:wb.grownBy w1 row) (hr:∀ j,row=some j->w.heap.size<=j) (hP:P m):OutL w P (.returned v1) w1:=by
 have h2:OwnL t w1 w.heap.size v1 ([]++m):=OwnL.append (l:=[]) rfl hk.symm h Lt32.nil hm;rw[QK]at h2;obtain⟨A,c,rfl,hL⟩:=h2.lim;exact⟨A,_,c,m,rfl,hL,hP,hB.grown hg hB.size hr⟩
theorem Zf{B:Nat}{a w:World}(h:Below B a w)(n:Nat):Below B a (w.drewN n):=⟨h.os,h.tape,h.output,h.size,h.block⟩
theorem Zbx(w:World)(x:Value)(t:TypeId):Reads (w.alloc (.cells #[x] t)) (w.heap.size+1) 1 (some ⟨w.heap.size,0,none⟩) 1 [x]:=
 ⟨rfl,λ_=>⟨_,rfl,Nat.lt_succ_self _,λj u hu=>by
  cases j with
  | zero =>
   simp at hu;subst hu;exact(Blk.new w t #[x]).cell 0
  | succ j=>simp at hu⟩⟩
theorem OwnL.snoc{t:TypeId}{w':World}{base:Nat}{v':Value}{l:List Nat}{n:Nat}{X:Int}{s:Nat}(hn:n=l.length)(h:w'.ownsRow base t 1 v' (n+1) (l.map limb ++ [.int .u32 X]))(hl:Lt32 l)(hX:X=s)(hs:s<4294967296):OwnL t w' base v' (l ++ [s]):=by
 subst hX;exact OwnL.append (m:=[s]) hn rfl h hl (Lt32.cons hs Lt32.nil)
theorem Zeq(l:List Nat)(x:Nat):val (l ++ [x])=val l+pw l.length*x:=by rw[Zjo];simp[val]
theorem OutL.of_own{t:TypeId}{w w1:World}{v1:Value}{m:List Nat}{P:List Nat->Prop}(h:OwnL t w1 w.heap.size v1 m)(hB:Below w.heap.size w w1)(hP:P m):OutL w P (.returned v1) w1:=by
 obtain⟨A,c,rfl,hL⟩:=h.lim;exact⟨A,_,c,m,rfl,hL,hP,hB⟩
def Zai:List WE->List Value
 | []=>[]
 | e::l=>.bool e.neg :: .slice e.A e.n e.c::Zai l
def Zbt(es:List WE):Array Value:=(Zai es).toArray
theorem Zba(es:List WE):(Zai es).length=es.length*2:=by
 induction es with
 | nil=>rfl
 | cons e l ih=>simp only[Zai,Qn,ih];omega
theorem Znt{es:List WE}{i:Nat}{e:WE}(h:es[i]?=some e):(Zai es)[i*2]?=some (.bool e.neg)/\(Zai es)[i*2+1]?=some (.slice e.A e.n e.c):=by
 induction es generalizing i with
 | nil=>simp at h
 | cons a l ih =>
  cases i with
  | zero=>simp at h;subst h;exact⟨rfl,rfl⟩
  | succ i =>
   have:=ih (i:=i) (by simpa using h);rw[show (i+1)*2=i*2+1+1 by omega];simpa [Zai]using this
theorem Zu5{es:List WE}{i:Nat}(e:WE)(h:i<es.length):((Zai es).set (i*2) (.bool e.neg)).set (i*2+1) (.slice e.A e.n e.c)=Zai (es.set i e):=by
 induction es generalizing i with
 | nil=>simp at h
 | cons a l ih =>
  cases i with
  | zero=>rfl
  | succ i =>
   have:=ih (i:=i) (by simpa using h);rw[show (i+1)*2=i*2+1+1 by omega];simp only[Zai,QV,this]
theorem Zos(es:List WE):∀ (i x:Nat),(Zai es)[i]?≠some (limb x):=by
 induction es with
 | nil=>intro i x;simp[Zai]
 | cons a l ih =>
  intro i x
  match i with
  | 0=>simp[Zai]
  | 1=>simp[Zai]
  | i+2=>simpa [Zai]using ih i x
theorem Zjq{es:List WE}{i:Nat}{e:WE}(h:es[i]?=some e):(Zbt es)[i*2]?=some (.bool e.neg)/\(Zbt es)[i*2+1]?=some (.slice e.A e.n e.c):=by
 simpa [Zbt]using Znt h
theorem Zt6{es:List WE}{i:Nat}(e:WE)(h:i<es.length):((Zbt es).setIfInBounds (i*2) (.bool e.neg)).setIfInBounds (i*2+1) (.slice e.A e.n e.c)=Zbt (es.set i e):=by
 unfold Zbt;rw[<- Zu5 e h];simp
theorem Zdl(es:List WE):NoLimb (Zbt es):=λi x=>by simpa [Zbt]using Zos es i x
theorem Zhi(es:List WE)(i:Nat)(b:Bool):NoLimb ((Zbt es).setIfInBounds i (.bool b)):=λj x=>by
 rw[Array.getElem?_setIfInBounds]
 split
 ·split <;> simp
 exact Zdl es j x
def POwn(t:TypeId)(w:World)(g:Nat)(xs:List Int):Prop:=
 ∃ es:List WE,Blk w g t (Zbt es)/\(∀ e ∈ es,Lim w e.A e.n e.c e.l/\e.ok=true)/\es.map WE.num=xs
section
variable{t:TypeId}{w w':World}{g:Nat}{xs:List Int}
theorem POwn.below(h:POwn t w g xs)(hb:Below w.heap.size w w'):POwn t w' g xs:=by
 obtain⟨es,h1,h2,h3⟩:=h;exact⟨es,Zc hb h1,λe he=>⟨(h2 e he).1.below hb,(h2 e he).2⟩,h3⟩
theorem POwn.lt(h:POwn t w g xs):g<w.heap.size:=by obtain⟨es,h1,_⟩:=h;exact h1.lt
theorem POwn.frozen(h:POwn t w g xs)(i:Nat):w.frozen? ⟨g,i,none⟩=false:=by obtain⟨es,h1,_⟩:=h;exact h1.frozen i
theorem POwn.at_(h:POwn t w g xs){i:Nat}(hi:i<xs.length):∃ neg A n c,w.cell? ⟨g,i*2,none⟩=some (.bool neg)/\w.cell? ⟨g,i*2+1,none⟩=some (.slice A n c)/\Wd w neg A n c (xs[i]?.getD 0):=by
 obtain⟨es,h1,h2,rfl⟩:=h;have hl:i<es.length:=by simpa using hi
 have he:=Qc hl;have hc:=Zjq he;have hm:=h2 es[i] (QE hl);refine⟨es[i].neg,es[i].A,es[i].n,es[i].c,by rw[h1.cell];exact hc.1,by rw[h1.cell];exact hc.2,?_⟩;rw[Yc,he];exact WE.wd hm.1 hm.2
theorem POwn.set_(h:POwn t w g xs){i:Nat}(hi:i<xs.length){neg:Bool}{A:Option Addr}{n c:Nat}{z:Int}(hz:Wd w neg A n c z) :
    POwn t ((w.setCell ⟨g,i*2,none⟩ (.bool neg)).setCell ⟨g,i*2+1,none⟩ (.slice A n c)) g (xs.set i z):=by
 obtain⟨es,h1,h2,rfl⟩:=h;have hl:i<es.length:=by simpa using hi
 have f:Blk (w.setCell ⟨g,i*2,none⟩ (.bool neg)) g t ((Zbt es).setIfInBounds (i*2) (.bool neg)):=h1.set_ _ _;have o:=f.set_ (i*2+1) (.slice A n c);have hs:=Zt6 (es:=es) (i:=i) ⟨neg,A,n,c,digits z.natAbs⟩ hl;dsimp only at hs;rw[hs]at o;have keep:∀ (A':Option Addr) (n' c':Nat) (l:List Nat),Lim w A' n' c' l->Lim ((w.setCell ⟨g,i*2,none⟩ (.bool neg)).setCell ⟨g,i*2+1,none⟩ (.slice A n c)) A' n' c' l:=λ_ _ _ _ h=>(h.set_box h1 (Zdl es) _ _).set_box f (Zhi _ _ _) _ _;refine⟨_,o,λe he=>?_,?_⟩
 ·rcases QB he with he|rfl
  exact⟨keep _ _ _ _ (h2 e he).1,(h2 e he).2⟩;exact⟨keep _ _ _ _ hz.2.2,hz.ok⟩
 rw[List.map_set];congr 1;exact hz.sgEq
end
def Zcv:WE:=⟨false,none,0,0,[]⟩
theorem Zlm(n:Nat):Zai (Qb n Zcv)=(madeCells #[.bool false,.slice none 0 0] (n*2)).toList:=by
 apply Yd;intro i
 have hm:(madeCells #[.bool false,.slice none 0 0] (n*2)).toList[i]?=if i<n*2 then some ((#[Value.bool false,Value.slice none 0 0])[i%2]!)else none:=by
  unfold madeCells;by_cases h:i<n*2;simp[h];simp[h]
 rw[hm];by_cases h:i<n*2
 ·rw[Gx h]
  have he:(Qb n Zcv)[i/2]?=some Zcv:=by rw[QI,Gx Gk]
  have hc:=Znt he;rcases Nat.mod_two_eq_zero_or_one i with h2|h2;rw[show i/2*2=i by omega]at hc;rw[hc.1,h2];rfl;rw[show i/2*2+1=i by omega]at hc;rw[hc.2,h2];rfl
 rw[Gw h];exact Qh (by rw[Zba];simp;omega)
theorem makeW{P:Program}(t e:TypeId){i:TypeInfo}(ht:P.underlying t=some (.slice e))(hi:P.info? e=some i)(hz:i.zero=some (.agg #[.bool false,.slice none 0 0]))(hs:i.size=2)(hb:i.bytes=32)
    (x:Int) (n:Nat) (hx:x=n) (hn:n<=1000000000000) (W:World) :
    (Instr.makeSlice t (.int .i64 x) (.int .i64 x)).run P W=.ok (.slice (some ⟨W.heap.size,0,none⟩) n n) (W.alloc (.cells (Zbt (Qb n Zcv)) e)):=by
 subst hx;have hr:=run_make (P:=P) W t e i _ ht hi hz .i64 .i64 n n Gk Gk (by rw[hb];omega) Gk;simp only[Ya]at hr;rw[hr]
 have:madeCells (Value.agg #[.bool false,.slice none 0 0]).cells (n*i.size)=Zbt (Qb n Zcv):=by
  rw[hs];apply Array.toList_inj.1;unfold Zbt;rw[Zlm];rfl
 rw[this]
theorem POwn.new(t:TypeId)(w:World)(n:Nat):POwn t (w.alloc (.cells (Zbt (Qb n Zcv)) t)) w.heap.size (Qb n 0):=
 ⟨Qb n Zcv,Blk.new _ _ _,λe he=>by rw[(List.mem_replicate.1 he).2];exact⟨Lim.nil _ _ _ (Qe _),rfl⟩,by simp[Zcv,WE.num,sg,val]⟩
attribute [local go_sem] Zg
theorem Fq{G:Prop}(h:G:=by
 have hb:(((l[k-1]?.getD 0:Nat):Int) == 0)=true:=by simp[hx]
 clear h;have hx:=Zb hx
 go_wp2
 go_round
 case rel=>exact⟨k-1,by omega,by go_num,λj hj=>by
     rcases Nat.lt_or_ge j k with h'|h'
     ·obtain rfl:j=k-1:=Gk
      exact hx.out
     exact hz.out j h'⟩
 case measure=>simp[intOf];omega):G:=h
theorem Zgd(A:Option Addr)(n c:Nat)(l:List Nat)(w:World)(h:Lim w A n c l) :
    Calls Tryz.prog 185 #[.slice A n c] w λe w'=>e=.returned (.slice A (digits (val l)).length c)/\w=w':=by
 have hn:=h.2.1;have hm:=h.2.2.1;unfold maxLen at hm;go_in
 go_wp2
 go_loop [3] (λv=>∃ k:Nat,k<=n/\v=.int .i64 k/\Hid (∀ j,k<=j->l[j]?.getD 0=0)) (λv=>(intOf v).toNat)
 case atStart=>exact⟨n,Qa _,rfl,λj hj=>by rw[Qh (by rw[h.len];exact hj)];rfl⟩
 case round =>
  obtain⟨k,hk,rfl,hz⟩:=hrel;by_cases hk0:0<k
  ·obtain⟨b,o,rfl,u⟩:=h.at_ (k:=k-1) Gk
   by_cases hx:l[k-1]?.getD 0=0;exact Fq;have hb:(((l[k-1]?.getD 0:Nat):Int) == 0)=false:=by simpa using hx
   have hd:=Zgz hz.out (Or.inr hx) h.lt;have f:=congrArg List.length hd;rw[Qo,h.len,Qv hk]at f;have HL:=Zb f;clear h hd f hx
   go_wp2
   go_ret;exact⟨Zpk HL.out.symm,rfl⟩
  obtain rfl:k=0:=Gk;have HL:=Zb (congrArg List.length (Zgz hz.out (Or.inl rfl) h.lt));clear h
  go_wp2
  go_ret;exact⟨Zpk HL.out.symm,rfl⟩
theorem Zi9{a b:Int}{s k:Nat}(h1:a=s)(h2:b=k):Ending.returned (.tuple #[.int .u32 a,.int .u32 b])=.returned (.tuple #[limb s,limb k]):=by rw[h1,h2]
def Sum32(t:Nat)(w:World)(e:Ending)(w':World):Prop:=
 ∃ s k:Nat,e=.returned (.tuple #[limb s,limb k])/\s<4294967296/\s+4294967296*k=t/\w=w'
theorem Zig(x y c:Nat)(w:World)(hx:x<4294967296)(hy:y<4294967296)(hc:c<=1) :
    Calls Tryz.prog 191 #[limb x,limb y,limb c] w (Sum32 (x+y+c) w):=by
 go_in
 go_wp2
 go_ret2
 exact⟨(x+y+c)%4294967296,(x+y+c)/4294967296,Zi9 Gk Gk,by omega,by omega,rfl⟩
theorem Zgc(z:Nat)(h:z<4294967296):z.testBit 31=decide (2147483648<=z):=by
 rw[Nat.testBit_eq_decide_div_mod_eq];congr 1;apply propext;constructor <;> intro h' <;> omega
theorem div31(z:Nat)(h:z<4294967296):z/2147483648=(z.testBit 31).toNat:=by
 rw[Zgc z h];by_cases h':2147483648<=z;simp[h'];omega;simp[h'];omega
theorem Zuf(x y d c:Nat)(hx:x<4294967296)(hy:y<4294967296)(hc:c<=1)(hd:d<4294967296)(k:Nat)(he:d+y+c=x+4294967296*k) :
    ((((4294967295 ^^^ x) &&& y) ||| ((4294967295 ^^^ (x ^^^ y)) &&& d))/2147483648)=k:=by
 have f:x ^^^ y<2^32:=Qk Gk Gk;have h1:4294967295 ^^^ x<2^32:=Qk Gk Gk;have h2:4294967295 ^^^ (x ^^^ y)<2^32:=Qk Gk f;have h3:(4294967295 ^^^ x) &&& y<2^32:=Qr _ Gk;have h4:(4294967295 ^^^ (x ^^^ y)) &&& d<2^32:=Qr _ Gk;have h5:=Nat.or_lt_two_pow h3 h4;rw[div31 _ Gk];simp only[Nat.testBit_or,Nat.testBit_and,Nat.testBit_xor,Zgc x hx,Zgc y hy,Zgc d hd,Zgc 4294967295 Gk];by_cases a:2147483648<=x <;> by_cases b:2147483648<=y <;> by_cases e:2147483648<=d <;> simp[a,b,e] <;> omega
def Dif32(x y c:Nat)(w:World)(e:Ending)(w':World):Prop:=
 ∃ d k:Nat,e=.returned (.tuple #[limb d,limb k])/\d<4294967296/\k<=1/\d+y+c=x+4294967296*k/\w=w'
theorem Zij(x y c:Nat)(w:World)(hx:x<4294967296)(hy:y<4294967296)(hc:c<=1) :
    Calls Tryz.prog 196 #[limb x,limb y,limb c] w (Dif32 x y c w):=by
 go_in
 go_wp2
 go_ret2
 have e1:((x:Int)-y-c)%4294967296=(((x+8589934592-y-c)%4294967296:Nat):Int):=Gk;have hd:(x+8589934592-y-c)%4294967296<4294967296:=Gk;obtain⟨k,hk⟩:∃ k,k<=1/\(x+8589934592-y-c)%4294967296+y+c=x+4294967296*k:=⟨if x<y+c then 1 else 0,by split <;> omega⟩;refine⟨(x+8589934592-y-c)%4294967296,k,Zi9 e1 ?_,hd,hk.1,hk.2,rfl⟩;show bits .or .u32 _ _/2147483648=_;rw[e1,show (IntKind.u32.max:Int)=((4294967295:Nat):Int) from rfl];have hb:=Zuf x y _ c hx hy hc hd k hk.2;generalize (x+8589934592-y-c)%4294967296=d at *;have e:x ^^^ y<2^32:=Qk Gk Gk;have h1:4294967295 ^^^ x<2^32:=Qk Gk Gk;have h2:4294967295 ^^^ (x ^^^ y)<2^32:=Qk Gk e;have h3:(4294967295 ^^^ x) &&& y<2^32:=Qr _ Gk;have h4:(4294967295 ^^^ (x ^^^ y)) &&& d<2^32:=Qr _ Gk;rw[u32_xor_nat x y hx hy,u32_xor_nat _ x Gk hx,u32_xor_nat _ (x ^^^ y) Gk Gk,u32_and_nat _ y Gk hy,u32_and_nat _ d Gk hd,u32_or_nat _ _ Gk Gk];omega
theorem Zdj:(Tryz.prog.info? 106).map (λi=>(i.zero,i.size,i.bytes))=some (some (.int .u32 0),1,4):=by kernel_rfl
def Plus1(w:World)(a b:List Nat)(g n k carry:Nat)(wr:World):Prop:=
 ∃ out,Blk wr g 106 (Zz out)/\out.length=n+1/\Lt32 out/\(∀ j,k<=j->out[j]?.getD 0=0)/\val out+pw k*carry=val (a.take k)+val (b.take k)/\Below w.heap.size w wr
theorem Plus1.start(w:World)(a b:List Nat)(n:Nat):Plus1 w a b w.heap.size n 0 0 (w.alloc (.cells (Zz (Qb (n+1) 0)) 106)):=
 ⟨Qb (n+1) 0,Blk.new _ _ _,by simp,Lt32.replicate _,λj _=>Zd5 _ _,by simp[Zel,val],(Qd _ _).alloc (Qa _) _⟩
theorem Plus1.step{w wr:World}{a b out:List Nat}{n k carry s q:Nat}(hblk:Blk wr w.heap.size 106 (Zz out))(hlen:out.length=n+1)(hlt:Lt32 out)(hz:∀ j,k<=j->out[j]?.getD 0=0)
    (hI:val out+pw k*carry=val (a.take k)+val (b.take k)) (hB:Below w.heap.size w wr) (hk:k<n) (hs:s<4294967296) (he:s+4294967296*q=a[k]?.getD 0+b[k]?.getD 0+carry) :
    Plus1 w a b w.heap.size n (k+1) q (wr.setCell ⟨w.heap.size,k,none⟩ (limb s)):=
 ⟨out.set k s,by rw[<- Zb2];exact hblk.set_ _ _,by rw[Qg];exact hlen,hlt.set _ hs,λj hj=>by rw[getD_set_ne _ Gk];exact hz j Gk,
  Zxc Gk (hz k (Qa _)) hI he,hB.setCell (p:=⟨w.heap.size,k,none⟩) (Qa _) _⟩
theorem Plus1.stop{w wr:World}{a b out:List Nat}{n carry:Nat}(hblk:Blk wr w.heap.size 106 (Zz out))(hlen:out.length=n+1)(hlt:Lt32 out)(hz:∀ j,n<=j->out[j]?.getD 0=0)
    (hI:val out+pw n*carry=val (a.take n)+val (b.take n)) (hB:Below w.heap.size w wr) (hc:carry<=1) (ha:a.length<=n) (hb:b.length<=n) (hn:n<maxLen) :
    OutL w (λl=>l.length=n+1/\val l=val a+val b) (.returned (.slice (some ⟨w.heap.size,0,none⟩) (n+1) (n+1))) (wr.setCell ⟨w.heap.size,n,none⟩ (limb carry)):=by
 have e:Blk (wr.setCell ⟨w.heap.size,n,none⟩ (limb carry)) w.heap.size 106 (Zz (out.set n carry)):=by rw[<- Zb2];exact hblk.set_ _ _
 have hL:=Lim.of_blk e (hlt.set _ Gk) (by rw[Qg];omega);rw[Qg,hlen]at hL;refine⟨_,_,_,_,rfl,hL,⟨by rw[Qg];exact hlen,?_⟩,hB.setCell (p:=⟨w.heap.size,n,none⟩) (Qa _) _⟩;have:=Zh9 (l:=out) (k:=n) Gk carry;rw[hz n (Qa _)]at this;rw[Zad ha,Zad hb]at hI;omega
theorem Es{G:Prop}(h:G:=by
 go_in
 go_wp2
 go_loopw [6,23] (λcv iv wr=>∃ k carry:Nat,k<=n/\carry<=1/\cv=limb carry/\iv=.int .i64 k/\Plus1 w a b w.heap.size n k carry wr) (λ_ iv _=>n-(intOf iv).toNat)
 case atStart=>exact⟨0,0,Nat.zero_le _,Nat.zero_le _,rfl,rfl,Plus1.start w a b n⟩
 case round =>
  obtain⟨k,carry,hk,cS,rfl,rfl,hP⟩:=hrel;by_cases hlt1:k<n
  ·have jC:=hP
   obtain⟨out,ap,ar,bz,hz,hI,hB⟩:=jC;have HP:=Zb hP;clear hP;have hz:=Zb hz;have hI:=Zb hI;have ar:=Zb ar;have fG:=ap.lt;obtain⟨ba,oa,rfl,kj⟩:=(ha.below hB).at_ hlt1;have iR:=ha.lt.get k;have dq:=ap.cell k;rw[Zas out k (by rw[ar.out];omega),hz.out k (Nat.le_refl _)]at dq;have ft:=ap.frozen k;by_cases eN:k<m
   ·obtain⟨bb,ob,rfl,kl⟩:=(hb.below hB).at_ eN
    have jR:=hb.lt.get k;go_wp2_with (go_at_call 191;refine(Zig _ _ _ _ iR jR cS).mono ?_;rintro e w' ⟨s,q,rfl,hs,he,rfl⟩;have hE:=Zb he;clear he)
    go_roundw
    case rel=>exact⟨k+1,q,by omega,by have:=hE.out;omega,rfl,by go_num,Plus1.step ap ar.out bz hz.out hI.out hB hlt1 hs hE.out⟩
    case measure=>simp[intOf];omega
   have jE:=Zb (getD_none (l:=b) (i:=k) (by rw[hb.len];omega));go_wp2_with (go_at_call 191;refine(Zig _ 0 _ _ iR Gk cS).mono ?_;rintro e w' ⟨s,q,rfl,hs,he,rfl⟩;have hE:=Zb he;clear he)
   go_roundw
   case rel=>exact⟨k+1,q,by omega,by have:=hE.out;omega,rfl,by go_num,Plus1.step ap ar.out bz hz.out hI.out hB hlt1 hs (by rw[jE.out];exact hE.out)⟩
   case measure=>simp[intOf];omega
  have HF:=Zb (HS.out k carry wr hP Gk hk cS);obtain⟨out,ap,ar,bz,hz,hI,hB⟩:=hP;have dq:=ap.cell n;rw[Zas out n Gk,hz n Gk]at dq;have ft:=ap.frozen n;have fG:=ap.lt;clear ap hz hI ar
  go_wp2
  go_ret;exact HF.out):G:=h
theorem Zsp(sw:Bool)(A B:Option Addr)(n c m d:Nat)(a b:List Nat)(w:World)(ha:Lim w A n c a)(hb:Lim w B m d b)(hsw:sw=true->m<n)(hsw':sw=false->m<=n)(hn:n<=1000000000) :
    Calls Tryz.prog 168 (if sw=true then #[.slice B m d,.slice A n c]else #[.slice A n c,.slice B m d]) w (OutL w λl=>l.length=n+1/\val l=val a+val b):=by
 obtain⟨i0,hi,u,C,I⟩:=info_parts Zdj;have T:=Zgs (P:=Tryz.prog) 37 106 Tryz.underlying37 hi u C I ((n:Int)+1) (n+1) Gk Gk;have J:=ha.2.1;have U:=hb.2.1;have o:=ha.2.2.1;have y:=hb.2.2.1;have f:n<maxLen:=by unfold maxLen;omega
 unfold maxLen at o y
 have HS:Hid (∀ k carry wr,Plus1 w a b w.heap.size n k carry wr->n<=k->k<=n->carry<=1->OutL w (λl=>l.length=n+1/\val l=val a+val b) (.returned (.slice (some ⟨w.heap.size,0,none⟩) (n+1) (n+1))) (wr.setCell ⟨w.heap.size,n,none⟩ (limb carry))):=by
  rintro k carry wr ⟨out,h1,h2,h3,h4,h5,h6⟩ h7 h8 h9;obtain rfl:k=n:=Gk;exact Plus1.stop h1 h2 h3 h4 h5 h6 h9 (by rw[ha.len];omega) (by rw[hb.len];cases sw;exact hsw' rfl;exact QY (hsw rfl)) f
 have O:m<=n:=by cases sw;exact hsw' rfl;exact QY (hsw rfl)
 cases sw
 ·clear hsw hsw' f
  have h:decide (n<m)=false:=by simp;omega
  show Calls _ _ #[.slice A n c,.slice B m d] _ _;exact Es
 have bz:m<n:=hsw rfl;clear hsw hsw' f;have h:decide (m<n)=true:=by simp;omega
 show Calls _ _ #[.slice B m d,.slice A n c] _ _;exact Es
theorem Zs2(A B:Option Addr)(n c m d:Nat)(a b:List Nat)(w:World)(ha:Lim w A n c a)(hb:Lim w B m d b)(hn:n<=1000000000)(hm:m<=1000000000) :
    Calls Tryz.prog 168 #[.slice A n c,.slice B m d] w (OutL w λl=>l.length=max n m+1/\val l=val a+val b):=by
 rcases Qf n m with h|h
 ·refine(Zsp true B A m d n c b a w hb ha (λ_=>h) (λe=>by cases e) hm).mono ?_
  rintro e w' ⟨A',n',c',l,he,hL,hP,hB⟩;exact⟨A',n',c',l,he,hL,⟨by rw[hP.1,Nat.max_eq_right (QY h)],by rw[hP.2,Nat.add_comm]⟩,hB⟩
 refine(Zsp false A B n c m d a b w ha hb (λe=>by cases e) (λ_=>h) hn).mono ?_;rintro e w' ⟨A',n',c',l,he,hL,hP,hB⟩;exact⟨A',n',c',l,he,hL,⟨by rw[hP.1,Nat.max_eq_left h],hP.2⟩,hB⟩
def Minus1(w:World)(a b:List Nat)(g n k borrow:Nat)(wr:World):Prop:=
 ∃ out,Blk wr g 106 (Zz out)/\out.length=n/\Lt32 out/\(∀ j,k<=j->out[j]?.getD 0=0)/\val out+val (b.take k)=val (a.take k)+pw k*borrow/\Below w.heap.size w wr
theorem Minus1.start(w:World)(a b:List Nat)(n:Nat):Minus1 w a b w.heap.size n 0 0 (w.alloc (.cells (Zz (Qb n 0)) 106)):=
 ⟨Qb n 0,Blk.new _ _ _,by simp,Lt32.replicate _,λj _=>Zd5 _ _,by simp[Zel,val],(Qd _ _).alloc (Qa _) _⟩
theorem Minus1.step{w wr:World}{a b out:List Nat}{n k borrow s q:Nat}(hblk:Blk wr w.heap.size 106 (Zz out))(hlen:out.length=n)(hlt:Lt32 out)(hz:∀ j,k<=j->out[j]?.getD 0=0)
    (hI:val out+val (b.take k)=val (a.take k)+pw k*borrow) (hB:Below w.heap.size w wr) (hk:k<n) (hs:s<4294967296) (he:s+b[k]?.getD 0+borrow=a[k]?.getD 0+4294967296*q) :
    Minus1 w a b w.heap.size n (k+1) q (wr.setCell ⟨w.heap.size,k,none⟩ (limb s)):=
 ⟨out.set k s,by rw[<- Zb2];exact hblk.set_ _ _,by rw[Qg];exact hlen,hlt.set _ hs,λj hj=>by rw[getD_set_ne _ Gk];exact hz j Gk,
  Zue Gk (hz k (Qa _)) hI he,hB.setCell (p:=⟨w.heap.size,k,none⟩) (Qa _) _⟩
theorem IN{G:Prop}(h:G:=by
 rcases Nat.eq_zero_or_pos borrow with h0|h0;subst h0;omega;have:=Nat.mul_le_mul_left (pw n) h0;omega):G:=h
theorem Minus1.stop{w wr:World}{a b:List Nat}{n borrow:Nat}(h:Minus1 w a b w.heap.size n n borrow wr)(ha:a.length<=n)(hb:b.length<=n)(hab:val b<=val a)(hn:n<=maxLen) :
    OutL w (λl=>l.length=n/\val l+val b=val a) (.returned (.slice (some ⟨w.heap.size,0,none⟩) n n)) wr:=by
 obtain⟨out,o,e,f,-,hI,hB⟩:=h;have hL:=Lim.of_blk o f Gk;rw[e]at hL;refine⟨_,_,_,_,rfl,hL,⟨e,?_⟩,hB⟩;rw[Zad ha,Zad hb]at hI;have:=Zgq f;rw[e]at this;exact IN
theorem Zkt(A B:Option Addr)(n c m d:Nat)(a b:List Nat)(w:World)(ha:Lim w A n c a)(hb:Lim w B m d b)(hmn:m<=n)(hab:val b<=val a)(hn:n<=1000000000) :
    Calls Tryz.prog 187 #[.slice A n c,.slice B m d] w (OutL w λl=>l.length=n/\val l+val b=val a):=by
 obtain⟨i0,hi,O,U,Y⟩:=info_parts Zdj;have a7:=Zgs (P:=Tryz.prog) 37 106 Tryz.underlying37 hi O U Y (n:Int) n rfl Gk;have a6:=ha.2.1;have a8:=hb.2.1;have J:=ha.2.2.1;have T:=hb.2.2.1;have I:n<=maxLen:=by unfold maxLen;omega
 unfold maxLen at J T
 have HS:Hid (∀ borrow wr,Minus1 w a b w.heap.size n n borrow wr->OutL w (λl=>l.length=n/\val l+val b=val a) (.returned (.slice (some ⟨w.heap.size,0,none⟩) n n)) wr):=
  λborrow wr h=>Minus1.stop h (by rw[ha.len];omega) (by rw[hb.len];omega) hab I
 clear I hab;go_in
 go_wp2
 go_loopw [6,15] (λcv iv wr=>∃ k borrow:Nat,k<=n/\borrow<=1/\cv=limb borrow/\iv=.int .i64 k/\Minus1 w a b w.heap.size n k borrow wr) (λ_ iv _=>n-(intOf iv).toNat)
 case atStart=>exact⟨0,0,Qe _,Qe _,rfl,rfl,Minus1.start w a b n⟩
 case round =>
  obtain⟨k,borrow,hk,y,rfl,rfl,hP⟩:=hrel;by_cases hlt1:k<n
  ·obtain⟨out,o,f,u,hz,hI,hB⟩:=hP
   have hz:=Zb hz;have hI:=Zb hI;have f:=Zb f;have a4:=o.lt;obtain⟨ba,oa,rfl,a3⟩:=(ha.below hB).at_ hlt1;have C:=ha.lt.get k;have a1:=o.cell k;rw[Zas out k (by rw[f.out];omega),hz.out k (Qa _)]at a1;have a5:=o.frozen k;by_cases hm1:k<m
   ·obtain⟨bb,ob,rfl,a2⟩:=(hb.below hB).at_ hm1
    have a0:=hb.lt.get k;go_wp2_with (go_at_call 196;refine(Zij _ _ _ _ C a0 y).mono ?_;rintro e w' ⟨s,q,rfl,hs,hq,he,rfl⟩;have hE:=Zb he;clear he)
    go_roundw
    case rel=>exact⟨k+1,q,by omega,hq,rfl,by go_num,Minus1.step o f.out u hz.out hI.out hB hlt1 hs hE.out⟩
    case measure=>simp[intOf];omega
   have V:=Zb (getD_none (l:=b) (i:=k) (by rw[hb.len];omega));go_wp2_with (go_at_call 196;refine(Zij _ 0 _ _ C Gk y).mono ?_;rintro e w' ⟨s,q,rfl,hs,hq,he,rfl⟩;have hE:=Zb he;clear he)
   go_roundw
   case rel=>exact⟨k+1,q,by omega,hq,rfl,by go_num,Minus1.step o f.out u hz.out hI.out hB hlt1 hs (by rw[V.out];exact hE.out)⟩
   case measure=>simp[intOf];omega
  obtain rfl:k=n:=Gk;have HF:=Zb (HS.out borrow wr hP);clear hP
  go_wp2
  go_ret;exact HF.out
theorem Z0p{w w':World}{A:Option Addr}{n c:Nat}{l:List Nat}{neg:Bool}(h:Lim w A n c l)(hb:Below w.heap.size w w')(hs:val l<pw 4096) :
    ResW w (sg neg (val l)) (.returned (.tuple #[.agg #[.bool (neg && decide (0<(digits (val l)).length)),.slice A (digits (val l)).length c],.int .i64 0])) w':=
 ⟨hb,_,_,_,_,_,rfl,.inl ⟨by rw[Z8];exact hs,rfl,(Wd.made h neg hs).below hb⟩⟩
theorem Fd{G:Prop}(h:G:=by
 cases neg
 all_goals
  go_in;go_wp2_with (go_at_call 185;refine(HT.out _ (h.alloc _)).mono ?_;rintro e w' ⟨rfl,rfl⟩);go_returns;exact HO.out _ ((Below.refl _ _).alloc (Nat.le_refl _) _) (HI.out.1 h1)):G:=h
theorem Zb8(neg:Bool)(A:Option Addr)(n c:Nat)(l:List Nat)(w:World)(h:Lim w A n c l) :
    Calls Tryz.prog 158 #[.bool neg,.slice A n c] w (ResW w (sg neg (val l))):=by
 have hk:=h.canon.2;have o:=h.2.1;have f:=h.2.2.1;unfold maxLen at f
 have HO:Hid (∀ w',Below w.heap.size w w'->val l<pw 4096->ResW w (sg neg (val l)) (.returned (.tuple #[.agg #[.bool (neg && decide (0<(digits (val l)).length)),.slice A (digits (val l)).length c],.int .i64 0])) w'):=
  λw' hb hs=>Z0p h hb hs
 have HB:Hid (∀ w',Below w.heap.size w w'->pw 4096<=val l->ResW w (sg neg (val l)) (.returned (.tuple #[.agg #[.bool false,.slice none 0 0],.int .i64 16])) w'):=
  λw' hb hs=>⟨hb,_,_,_,_,_,rfl,.inr ⟨by rw[Z8];exact hs,rfl,rfl,rfl,rfl,rfl⟩⟩
 have HI:=Zb (Zr (val l) 4096);have HT:=Zb (Zgd A n c l);generalize hm:(digits (val l)).length=m at *;clear hm;by_cases h1:m<=4096
 ·by_cases h2:0<m
  ·have e:(neg && decide (0<m))=neg:=by simp[h2]
   simp only[e]at HO;clear e;have hd:decide (0<m)=true:=by simpa using h2
   exact Fd
  obtain rfl:m=0:=Gk;have e:(neg && decide (0<0))=false:=Gh;simp only[e]at HO;clear e;exact Fd
 have hp:pw 4096<=val l:=by
   rcases Qf (val l) (pw 4096)with h'|h';exact absurd (HI.out.2 h') h1;exact h'
 have HP:=Zb hp;clear hp;go_in;go_wp2_with (go_at_call 185;refine(HT.out _ (h.alloc _)).mono ?_;rintro e w' ⟨rfl,rfl⟩);go_returns;exact HB.out _ ((Qd _ _).alloc (Qa _) _) HP.out
def Times1(w:World)(a b:List Nat)(g i k carry:Nat)(wr:World):Prop:=
 ∃ out,Blk wr g 106 (Zz out)/\out.length=a.length+b.length/\Lt32 out/\(∀ j,i+b.length<=j->out[j]?.getD 0=0) /\
  val out+pw (i+k)*carry=val (a.take i)*val b+pw i*(a[i]?.getD 0*val (b.take k))/\carry<4294967296/\Below w.heap.size w wr
theorem Times1.start(w:World)(a b:List Nat):Times1 w a b w.heap.size 0 0 0 (w.alloc (.cells (Zz (Qb (a.length+b.length) 0)) 106)):=
 ⟨Qb _ 0,Blk.new _ _ _,by simp,Lt32.replicate _,λj _=>Zd5 _ _,by simp[Zel,val],by omega,(Qd _ _).alloc (Qa _) _⟩
theorem Times1.step{w wr:World}{a b out:List Nat}{i k carry s q:Nat}(hblk:Blk wr w.heap.size 106 (Zz out))(hlen:out.length=a.length+b.length)(hlt:Lt32 out)(hz:∀ j,i+b.length<=j->out[j]?.getD 0=0)
    (hI:val out+pw (i+k)*carry=val (a.take i)*val b+pw i*(a[i]?.getD 0*val (b.take k))) (hc:carry<4294967296) (hB:Below w.heap.size w wr) (hi:i<a.length) (hk:k<b.length)
    (ha:Lt32 a) (hb:Lt32 b) (hs:s<4294967296) (he:s+4294967296*q=carry+a[i]?.getD 0*b[k]?.getD 0+out[i+k]?.getD 0) :
    Times1 w a b w.heap.size i (k+1) q (wr.setCell ⟨w.heap.size,i+k,none⟩ (limb s)):=
 ⟨out.set (i+k) s,by rw[<- Zb2];exact hblk.set_ _ _,by rw[Qg];exact hlen,hlt.set _ hs,λj hj=>by rw[getD_set_ne _ Gk];exact hz j Gk,
  Zvb Gk hI he,Z1j (ha.get i) (hb.get k) (hlt.get _) hc he,hB.setCell (p:=⟨w.heap.size,i+k,none⟩) (Qa _) _⟩
theorem Times1.row{w wr:World}{a b:List Nat}{i carry:Nat}(h:Times1 w a b w.heap.size i b.length carry wr)(hi:i<a.length) :
    Times1 w a b w.heap.size (i+1) 0 0 (wr.setCell ⟨w.heap.size,i+b.length,none⟩ (limb carry)):=by
 obtain⟨out,e,f,o,hz,hI,hc,hB⟩:=h;rw[List.take_length]at hI;refine⟨out.set (i+b.length) carry,by rw[<- Zb2];exact e.set_ _ _,by rw[Qg];exact f,o.set _ hc,λj hj=>by rw[getD_set_ne _ Gk];exact hz j Gk,?_,by omega,hB.setCell (p:=⟨w.heap.size,i+b.length,none⟩) (Qa _) _⟩;have:=Zyr Gk (hz _ (Qa _)) hI;simp[val,this]
theorem Times1.stop{w wr:World}{a b:List Nat}{carry:Nat}(h:Times1 w a b w.heap.size a.length 0 carry wr)(hn:a.length+b.length<=maxLen)(h0:carry=0) :
    OutL w (λl=>l.length=a.length+b.length/\val l=val a*val b) (.returned (.slice (some ⟨w.heap.size,0,none⟩) (a.length+b.length) (a.length+b.length))) wr:=by
 obtain⟨out,f,e,o,-,hI,-,hB⟩:=h;have hL:=Lim.of_blk f o Gk;rw[e]at hL;refine⟨_,_,_,_,rfl,hL,⟨e,?_⟩,hB⟩;subst h0;simpa [val]using hI
theorem Fs{G:Prop}(h:G:=by
 obtain rfl:i=n:=Gk
 have HF:Hid (OutL w (λl=>l.length=i+m/\val l=val a*val b) (.returned (.slice (some ⟨w.heap.size,0,none⟩) (i+m) (i+m))) wr):=by
  rw[<- dp.out];have h1:=bS.out;subst h1;exact Times1.stop hP (by rw[dp.out];unfold maxLen;omega) rfl
 clear hP
 go_wp2
 go_ret;exact HF.out):G:=h
theorem EO{G:Prop}(h:G:=by
 obtain rfl:k=m:=Gk
 have HR:Hid (Times1 w a b w.heap.size (i+1) 0 0 (wr.setCell ⟨w.heap.size,i+k,none⟩ (limb carry))):=by
  rw[<- dp.out]at hP ⊢;exact hP.row (by rw[bS.out];exact hlt1)
 obtain⟨out,ap,ar,bz,hz,hI,cS,hB⟩:=hP;have fG:=ap.lt;have dq:=ap.cell (i+k);rw[Zas out (i+k) (by rw[ar,bS.out,dp.out];omega)]at dq;have ft:=ap.frozen (i+k);clear hz hI ar ap
 go_wp2
 go_roundw
 case rel=>exact⟨i+1,by omega,by go_num,HR.out⟩
 case measure=>simp[intOf];omega):G:=h
theorem Zx0(A B:Option Addr)(n c m d:Nat)(a b:List Nat)(w:World)(ha:Lim w A n c a)(hb:Lim w B m d b)(hn:n<=1000000000)(hm:m<=1000000000) :
    Calls Tryz.prog 178 #[.slice A n c,.slice B m d] w (OutL w λl=>l.length=n+m/\val l=val a*val b):=by
 obtain⟨i0,hi,f,o,u⟩:=info_parts Zdj;have Y:=Zgs (P:=Tryz.prog) 37 106 Tryz.underlying37 hi f o u ((n:Int)+m) (n+m) Gk Gk;have V:=ha.2.1;have a0:=hb.2.1;have e:=ha.2.2.1;have h:=hb.2.2.1;unfold maxLen at e h;have bS:=Zb ha.len;have dp:=Zb hb.len;go_in
 go_wp2
 go_loopw [19] (λiv wr=>∃ i:Nat,i<=n/\iv=.int .i64 i/\Times1 w a b w.heap.size i 0 0 wr) (λiv _=>n-(intOf iv).toNat)
 case atStart=>exact⟨0,Qe _,rfl,by have:=Times1.start w a b;rw[ha.len,hb.len]at this;exact this⟩
 case round =>
  obtain⟨i,O,rfl,hP⟩:=hrel;by_cases hlt1:i<n
  ·have C:Below w.heap.size w wr:=by obtain⟨out,h1,h2,h3,h4,h5,h6,h7⟩:=hP;exact h7
   obtain⟨ba,oa,rfl,U⟩:=(ha.below C).at_ hlt1;have I:=ha.lt.get i;obtain⟨wo,rfl⟩:=Gy wr
   go_wp2
   go_loopw [8,26] (λcv kv wr=>∃ k carry:Nat,k<=m/\cv=.int .u64 carry/\kv=.int .i64 k/\Times1 w a b w.heap.size i k carry wr) (λ_ kv _=>m-(intOf kv).toNat)
   case atStart=>exact⟨0,0,Qe _,rfl,rfl,hP⟩
   case round =>
    obtain⟨k,carry,hk,rfl,rfl,hP⟩:=hrel;by_cases hlt2:k<m
    ·obtain⟨out,ap,ar,bz,hz,hI,cS,hB⟩:=hP
     have hz:=Zb hz;have hI:=Zb hI;have ar:=Zb ar;have fG:=ap.lt;obtain⟨bb,ob,rfl,T⟩:=(hb.below hB).at_ hlt2;have y:=hb.lt.get k;have dq:=ap.cell (i+k);rw[Zas out (i+k) (by rw[ar.out,bS.out,dp.out];omega)]at dq;have J:=bz.get (i+k);have ft:=ap.frozen (i+k)
     go_wp2
     go_roundw
     case rel =>
      rw[Zwx cS I y J,Zn6,Zmt];exact⟨k+1,_,by omega,rfl,by go_num,Times1.step ap ar.out bz hz.out hI.out cS hB (by rw[bS.out];exact hlt1) (by rw[dp.out];exact hlt2) ha.lt hb.lt (QD _ Gj) Gk⟩
     case measure=>simp[intOf];omega
    exact EO
  exact Fs
open Go.RowKit Go.Shelf
attribute [local go_sem] Oper.semAt_some
def Zdh(n:Nat):Nat->List { i:Nat // i<n }
 | 0=>[]
 | k+1=>Zdh n k++(if h:k<n then [⟨n-1-k,by omega⟩]else [])
theorem Zdw{n k:Nat}(h:k<n):Zdh n (k+1)=Zdh n k ++ [⟨n-1-k,by omega⟩]:=by simp[Zdh,h]
theorem Zdn{n k:Nat}(h:k<=n):(Zdh n k).length=k:=by
 induction k with
 | zero=>rfl
 | succ k ih=>rw[Zdw Gk];simp[ih Gk]
theorem Znb{n k:Nat}(h:k<=n)(i:{ i:Nat // i<n }):i ∈ Zdh n k ↔ n-k<=i.1:=by
 induction k with
 | zero=>simp[Zdh];omega
 | succ k ih =>
  have:=i.2;rw[Zdw Gk,List.mem_append,ih Gk,List.mem_singleton,Subtype.ext_iff];simp;omega
def Zim(l:List Nat)(n:Nat)(i:{ i:Nat // i<n }):Array Value:=#[.int .i64 (i.1:Int),limb (l[i.1]?.getD 0)]
theorem Zhj{W W':World}{row:Option Nat}{A:Option Addr}{n c:Nat}{l:List Nat}(h:Lim W A n c l)(hg:W.grownBy W' row)(hrow:∀ r,row=some r->∃ o:Obj,W.heap[r]?=some o/\o.isCells=false):Lim W' A n c l:=
 ⟨h.1,h.2.1,h.2.2.1,h.2.2.2.1,λhn=>by
  obtain⟨b,o,e,hc⟩:=h.2.2.2.2 hn;exact⟨b,o,e,λk hk=>cell_kept (hc k hk) hg hrow⟩⟩
def KpD(Bs:Nat)(A:Option Addr)(n c:Nat)(l:List Nat)(W W':World):Prop:=
 (W.cell? ⟨Bs,0,none⟩=some (.slice A n c)->W'.cell? ⟨Bs,0,none⟩=some (.slice A n c))/\(Lim W A n c l->Lim W' A n c l)
theorem KpD.refl(Bs:Nat)(A:Option Addr)(n c:Nat)(l:List Nat)(W:World):KpD Bs A n c l W W:=⟨id,id⟩
theorem KpD.trans{Bs n c:Nat}{A:Option Addr}{l:List Nat}{W1 W2 W3:World}(h:KpD Bs A n c l W1 W2)(k:KpD Bs A n c l W2 W3):KpD Bs A n c l W1 W3:=⟨λx=>k.1 (h.1 x),λx=>k.2 (h.2 x)⟩
theorem KpD.put{Bs n c:Nat}{A:Option Addr}{l:List Nat}(W:World)(lp:Nat)(o o':Obj)(ho:W.heap[lp]?=some o)(hc:o.isCells=false):KpD Bs A n c l W (W.putObj lp o'):=
 ⟨λh=>cell_kept h (grownBy_putObj' W lp o') (λr e=>by cases e;exact⟨o,ho,hc⟩),λh=>Zhj h (grownBy_putObj' W lp o') (λr e=>by cases e;exact⟨o,ho,hc⟩)⟩
theorem KpD.set_{Bs n c:Nat}{A:Option Addr}{l:List Nat}{w W:World}{g o:Nat}(hL:Lim w A n c l)(hg:w.heap.size<=g)(hB:g≠Bs)(u:Value):KpD Bs A n c l W (W.setCell ⟨g,o,none⟩ u):=
 ⟨λh=>(Ql W _ _ u (λe=>hB (by cases e;rfl))).trans h,λh=>⟨h.1,h.2.1,h.2.2.1,h.2.2.2.1,λhn=>by
  obtain⟨b,o',e,hc⟩:=h.2.2.2.2 hn;obtain⟨b1,o1,e1,y⟩:=hL.2.2.2.2 hn;rw[e]at e1;cases e1;have f:=Zo (y 0 hn);exact⟨b,o',e,λk hk=>(Ql W _ _ u (λe2=>by cases e2;simp at f;omega)).trans (hc k hk)⟩⟩⟩
theorem Z1i(d:Nat)(hd:1<=d)(lp Bs n c:Nat)(A:Option Addr)(l:List Nat)(J Jx:List { i:Nat // i<n }->World->Prop)
    (hY:∀ pre x W,J pre W->pre.length<n->YieldAt Fence.wide (d-1) Tryz.prog lp (Zim l n x) W λe W' =>
     (e=.returned (.bool true)/\J (pre ++ [x]) W'/\KpD Bs A n c l W W') \/ (e=.returned (.bool false)/\Jx (pre ++ [x]) W'))
    (W:World) (hBs:W.cell? ⟨Bs,0,none⟩=some (.slice A n c)) (hL:Lim W A n c l) (h0:J [] W) :
    CallsIn Fence.wide d Tryz.prog 198 #[.func (.yield lp) #[] #[],.pointer (some ⟨Bs,0,none⟩)] W λe W'=>(∃ v,e=.returned v) /\
     ((∃ ys,ys=Zdh n n/\J ys W') \/ (∃ pre,(∃ k,k<=n/\pre=Zdh n k)/\Jx pre W')):=by
 have U:=hL.2.1;have T:=hL.2.2.1;unfold maxLen at T;refine callsIn_of_wp Tryz.func198 rfl trivial ?_ rfl;simp only[Tryz.ntmps198,Ye,Qn,Yj,Nat.reduceAdd,Nat.reduceSub,QP,QQ,Yf,QS,QK,Qt]
 gi_wp2
 gi_loopw [3] (λi wr=>∃ k:Nat,k<=n/\i=.int .i64 ((n:Int)-1-k)/\J (Zdh n k) wr/\Hid (wr.cell? ⟨Bs,0,none⟩=some (.slice A n c))/\Lim wr A n c l)
  (λi _=>(intOf i+1).toNat)
 case atStart=>exact⟨0,Qe _,by go_num,h0,hBs,hL⟩
 case round =>
  obtain⟨k,hk,rfl,u,f,C⟩:=hrel;have Y:=f.out;by_cases hlt:k<n
  ·obtain⟨b,o,rfl,V⟩:=C.at_ (k:=n-1-k) Gk
   obtain⟨fn,tmps,assign,body,hy,hR⟩:=hY _ ⟨n-1-k,by omega⟩ wr u (by rw[Zdn hk];exact hlt);dsimp only[Zim]at hy;rw[show ((n-1-k:Nat):Int)=(n:Int)-1-k by omega]at hy
   gi_wp2
   refine hR.mono ?_;rintro e W3 (⟨rfl,O,y⟩|⟨rfl,h⟩)
   ·have I:=Zb (y.1 f.out)
    gi_wp2
    go_roundw
    case rel=>exact⟨k+1,by omega,by go_num,by rw[Zdw hlt];exact O,I,y.2 C⟩
    case measure=>simp[intOf];omega
   gi_wp2
   refine bodyPost_ret (results_none rfl _ _ _) rfl ?_;exact⟨⟨_,rfl⟩,.inr ⟨_,⟨k+1,by omega,(Zdw hlt).symm⟩,h⟩⟩
  obtain rfl:k=n:=Gk
  gi_wp2
  go_end0
  exact⟨⟨_,rfl⟩,.inl ⟨_,rfl,u⟩⟩
theorem Zje(d:Nat)(hd:1<=d)(Bs n c:Nat)(A:Option Addr)(l:List Nat)(w:World)(hc:w.cell? ⟨Bs,0,none⟩=some (.slice A n c))(hL:Lim w A n c l) :
    SeqStopsK Fence.wide d Tryz.prog 198 #[.pointer (some ⟨Bs,0,none⟩)] (Zim l n) (KpD Bs A n c l) (λys=>ys=Zdh n n) (λpre=>∃ k,k<=n/\pre=Zdh n k) n w:=λlp J Jx W hW _ _ hY h0 =>
 Z1i d hd lp Bs n c A l J Jx hY W ((hW.cell (Zo hc)).trans hc) (hL.below hW) h0
theorem Zmy(A:Option Addr)(n c:Nat)(w:World) :
    Calls Tryz.prog 190 #[.slice A n c] w λe w'=>e=.returned (.func (.func 198) #[] #[.pointer (some ⟨w.heap.size,0,none⟩)])/\w.alloc (.cells #[.slice A n c] 37)=w':=by
 go_in
 go_wp2
 go_ret;exact⟨rfl,rfl⟩
def Zcn(a b:List Nat):Int:=if a.length<b.length then -1 else if b.length<a.length then 1 else if val a<val b then -1 else if val b<val a then 1 else 0
theorem Zoe{l:List Nat}{k:Nat}(h:k<l.length):val (l.drop k)=l[k]?.getD 0+4294967296*val (l.drop (k+1)):=by
 rw[List.drop_eq_getElem_cons h,val,Qc h];rfl
theorem Zl2{a b:List Nat}{n k:Nat}(ha:a.length=n)(hb:b.length=n)(hla:Lt32 a)(hk:k<n)(he:∀ j,k<j->j<n->a[j]?.getD 0=b[j]?.getD 0)(hlt:a[k]?.getD 0<b[k]?.getD 0):val a<val b:=by
 have h1:∀ m,k<n-m->m<=n->val (a.drop (n-m))=val (b.drop (n-m)):=by
  intro m
  induction m with
  | zero=>intro _ _;rw[Nat.sub_zero,Qq Gk,Qq Gk]
  | succ m ih =>
   intro h h';rw[Zoe (l:=a) Gk,Zoe (l:=b) Gk,he _ h Gk,show n-(m+1)+1=n-m by omega,ih Gk Gk]
 have h2:val (a.drop (k+1))=val (b.drop (k+1)):=by
  rcases Qf (k+1) n with h|h
  ·have:=h1 (n-(k+1)) Gk Gk
   rwa [show n-(n-(k+1))=k+1 by omega]at this
  rw[Qq Gk,Qq Gk]
 have h3:=Zae a k Gk;have h4:=Zae b k Gk;rw[Zoe Gk]at h3 h4;have h5:=Zgq (hla.take k);rw[Qo,Qv Gk]at h5;rw[h3,h4,h2];generalize val (b.drop (k+1))=t;have:pw k*(a[k]?.getD 0+4294967296*t+1)<=pw k*(b[k]?.getD 0+4294967296*t):=Qx _ Gk;rw[Qm,Nat.mul_one]at this;omega
theorem Z0w{a b:List Nat}{n:Nat}(ha:a.length=n)(hb:b.length=n)(he:∀ j,j<n->a[j]?.getD 0=b[j]?.getD 0):a=b:=by
 apply List.ext_getElem Gk;intro i h1 h2;have:=he i Gk
 rwa [Qc h1,Qc h2]at this
theorem Zo6(a:List Nat):Zcn a a=0:=by simp[Zcn]
theorem Cr{G:Prop}(h:G:=by
 rw[hr];go_in
 go_wp2
 go_returns;exact⟨rfl,by go_grown⟩):G:=h
theorem Ct{G:Prop}(h:G:=by
 intro l x W K hK;dsimp only[Zim]
 gi_wp2
 exact hK):G:=h
theorem Zcs(A B:Option Addr)(n c m d:Nat)(a b:List Nat)(w:World)(ha:Lim w A n c a)(hb:Lim w B m d b) :
    Calls Tryz.prog 186 #[.slice A n c,.slice B m d] w λe w'=>e=.returned (.int .i64 (Zcn a b))/\Below w.heap.size w w':=by
 have a3:=ha.2.1;have a4:=hb.2.1;have U:=ha.2.2.1;have a0:=hb.2.2.1;unfold maxLen at U a0;by_cases h1:n<m
 ·have u:(((n:Nat):Int) != m)=true:=by simp;omega
  have hd:decide (n<m)=true:=by simpa using h1
  have hr:Zcn a b=-1:=by unfold Zcn;rw[ha.len,hb.len,Gx h1]
  exact Cr
 by_cases h2:m<n
 ·have u:(((n:Nat):Int) != m)=true:=by simp;omega
  have hd:decide (n<m)=false:=by simpa using h1
  have hr:Zcn a b=1:=by unfold Zcn;rw[ha.len,hb.len,Gw h1,Gx h2]
  exact Cr
 obtain rfl:n=m:=Gk;have u:(((n:Nat):Int) != n)=false:=Gh;have h9:1<=9:=Gk;refine(callsIn_wide (n:=9)).1 ?_;refine callsIn_of_wp_marks Tryz.func186 rfl trivial ?_ rfl;simp only[Tryz.ntmps186,Ye,Qn,Yj,Nat.reduceAdd,Nat.reduceSub,QP,QQ,Yf,QS,QK,Qt]
 gi_wp2_with (refine⟨trivial,?_⟩;gi_at_call 190;refine(callsIn_wide.2 (Zmy _ _ _ _)).mono ?_;rintro e w' ⟨rfl,rfl⟩)
 have bB:=Boxed.new w 37 (.slice B n d);have bR:=Boxed.new (w.alloc (.cells #[.slice B n d] 37)) 3 (.int .i64 0);have bN:=Boxed.new ((w.alloc (.cells #[.slice B n d] 37)).alloc (.cells #[.int .i64 0] 3)) 37 (.slice A n c);simp only[QG]at bR bN;have J:Below w.heap.size w (((w.alloc (.cells #[.slice B n d] 37)).alloc (.cells #[.int .i64 0] 3)).alloc (.cells #[.slice A n c] 37)):=by go_grown
 refine wpIn_rangeFunc_ownF rfl h9 (gf:=198) (lb:=#[.pointer (some ⟨w.heap.size+1+1,0,none⟩)]) rfl trivial (enters_of Tryz.func198 Gi rfl)
  (Zje 8 Gk (w.heap.size+1+1) n c A a _ bN.cell (ha.below J)) KpD.trans (λW l o o' _ h hc _=>KpD.put W l o o' h hc) (Qd _ _) (λ_=>rfl)
  (λpre W=>((∀ p ∈ pre,a[p.1]?.getD 0=b[p.1]?.getD 0)/\W.cell? ⟨w.heap.size,0,none⟩=some (.slice B n d)/\W.cell? ⟨w.heap.size+1,0,none⟩=some (.int .i64 0)/\W.frozen? ⟨w.heap.size+1,0,none⟩=false)/\Below w.heap.size w W)
  (λcc pre W=>(cc=.ret/\∃ ini last,pre=ini ++ [last]/\(∀ p ∈ ini,a[p.1]?.getD 0=b[p.1]?.getD 0) /\
   ((a[last.1]?.getD 0<b[last.1]?.getD 0/\W.cell? ⟨w.heap.size+1,0,none⟩=some (.int .i64 (-1))) \/ (b[last.1]?.getD 0<a[last.1]?.getD 0/\W.cell? ⟨w.heap.size+1,0,none⟩=some (.int .i64 1))))/\Below w.heap.size w W)
  (OwnFrom.and (Own.from (λs X Y row hs hg hr=>⟨hs.1,cell_kept hs.2.1 hg hr,cell_kept hs.2.2.1 hg hr,(frozen_kept hs.2.2.1 hg hr).trans hs.2.2.2⟩) _) (ownFrom_below (Qa _) Gg))
  (λcc=>OwnFrom.and (Own.from (λs X Y row hs hg hr=>by
   obtain⟨hc,ini,last,e1,e2,e3⟩:=hs;refine⟨hc,ini,last,e1,e2,?_⟩;rcases e3 with ⟨e3,e4⟩|⟨e3,e4⟩;exact .inl ⟨e3,cell_kept e4 hg hr⟩;exact .inr ⟨e3,cell_kept e4 hg hr⟩) _) (ownFrom_below (Qa _) Gg))
  ⟨⟨by simp,((bB.alloc _).alloc _).cell,(bR.alloc _).cell,(bR.alloc _).frozen⟩,J⟩
  (λx=>{ tmps:=#[.slice A n c,.slice B n d,undef,.pointer (some ⟨w.heap.size,0,none⟩),.pointer (some ⟨w.heap.size+1,0,none⟩),.int .i64 (x.1:Int),limb (a[x.1]?.getD 0),.slice A n c,
   .int .i64 n,.slice B n d,.int .i64 n,.bool false,undef,undef,undef,undef,undef,.slice A n c,.func (.func 198) #[] #[.pointer (some ⟨w.heap.size+1+1,0,none⟩)],.int .i64 (x.1:Int),limb (a[x.1]?.getD 0),
   undef,undef,undef,undef,undef,undef,undef,undef,undef,undef,undef,undef],defers:=[] }) ?assign ?body ?done ?stop
 case assign =>
  exact Ct
 case body =>
  rintro l pre x W ⟨⟨hp,O,f,I⟩,hB⟩ _;obtain⟨i,hi⟩:=x;obtain⟨bb,ob,rfl,a2⟩:=(hb.below hB).at_ hi;by_cases t1:a[i]?.getD 0<b[i]?.getD 0
  ·have a1:decide (a[i]?.getD 0<b[i]?.getD 0)=true:=by simpa using t1
   gi_wp2
   exact⟨KeepsOthers.setCell _ _ _,⟨rfl,pre,⟨i,hi⟩,rfl,hp,.inl ⟨t1,World.cell?_setCell_same' _ _ _ (by rw[f];rfl)⟩⟩,hB.setCell (p:=⟨w.heap.size+1,0,none⟩) Gh _⟩
  have a1:decide (a[i]?.getD 0<b[i]?.getD 0)=false:=by simpa using t1
  by_cases t2:b[i]?.getD 0<a[i]?.getD 0
  ·have T:decide (b[i]?.getD 0<a[i]?.getD 0)=true:=by simpa using t2
   gi_wp2
   exact⟨KeepsOthers.setCell _ _ _,⟨rfl,pre,⟨i,hi⟩,rfl,hp,.inr ⟨t2,World.cell?_setCell_same' _ _ _ (by rw[f];rfl)⟩⟩,hB.setCell (p:=⟨w.heap.size+1,0,none⟩) Gh _⟩
  have T:decide (b[i]?.getD 0<a[i]?.getD 0)=false:=by simpa using t2
  gi_wp2
  exact⟨KeepsOthers.refl _,KpD.refl _ _ _ _ _ _,⟨λp hp'=>(List.mem_append.1 hp').elim (hp p) (λe=>by simp at e;subst e;simp;omega),O,f,I⟩,hB⟩
 case done =>
  rintro D ys W hD rfl ⟨⟨u,O,f,I⟩,hB⟩ hK;have V:a=b:=Z0w ha.len hb.len (λj hj=>u ⟨j,hj⟩ ((Znb (Qa _) _).2 Gh))
  gi_wp2
  have C:=(KeepsOthers.setCell W ⟨w.heap.size+1,0,none⟩ (.int .i64 0)).same D _ hK rfl;refine⟨by simp,.inl ⟨_,_,rfl,run_takeDeferred C,?_⟩⟩;have y:=cell_kept (World.cell?_setCell_same' W ⟨w.heap.size+1,0,none⟩ (.int .i64 0) (by rw[f];rfl)) (grownBy_putObj' _ D (.deferred none)) (λr e=>by cases e;exact⟨_,C,rfl⟩);refine⟨.int .i64 0,?_,by rw[V,Zo6],(hB.setCell (p:=⟨w.heap.size+1,0,none⟩) Gh _).trans (belowK_b (w:=w) (Qa _) _ D _ _ (by simp at hD;omega) C rfl rfl)⟩;simp[results,Tryz.f186,go_sem,y]
 case stop =>
  rintro D cc pre W hD ⟨k,hk,rfl⟩ ⟨⟨rfl,ini,last,e1,e2,e3⟩,hB⟩ hK
  obtain⟨k',rfl⟩:∃ k',k=k'+1:=by
   cases k with
   | zero=>simp[Zdh]at e1
   | succ k'=>exact⟨k',rfl⟩
  rw[Zdw Gk]at e1;obtain⟨rfl,e5⟩:=List.append_inj' e1 rfl
  have e6:last.1=n-1-k':=by
   have:=congrArg (List.map (λz:{ i:Nat // i<n }=>z.1)) e5;simpa using this.symm
  rw[e6]at e3;have he:∀ j,n-1-k'<j->j<n->a[j]?.getD 0=b[j]?.getD 0:=λj hj hj'=>e2 ⟨j,hj'⟩ ((Znb Gk _).2 Gg)
  obtain⟨r,f,hr⟩:∃ r:Int,W.cell? ⟨w.heap.size+1,0,none⟩=some (.int .i64 r)/\Zcn a b=r:=by
   rcases e3 with ⟨e3,e4⟩|⟨e3,e4⟩
   ·have:=Zl2 ha.len hb.len ha.lt Gk he e3
    exact⟨_,e4,by unfold Zcn;rw[ha.len,hb.len];simp[this]⟩
   have:=Zl2 hb.len ha.len hb.lt Gk (λj h h'=>(he j h h').symm) e3;exact⟨_,e4,by unfold Zcn;rw[ha.len,hb.len];simp[this];omega⟩
  gi_wp2
  refine⟨by simp,.inl ⟨_,_,rfl,run_takeDeferred hK,?_⟩⟩;have y:=cell_kept f (grownBy_putObj' _ D (.deferred none)) (λr e=>by cases e;exact⟨_,hK,rfl⟩);refine⟨.int .i64 r,?_,by rw[hr],hB.trans (belowK_b (w:=w) (Qa _) W D _ _ (by simp at hD;omega) hK rfl rfl)⟩;simp[results,Tryz.f186,go_sem,y]
def Zfr(b:Bool):Int:=if b then 0 else 8
theorem IG{G:Prop}(h:G:=by
 go_wp2
 go_ret;exact⟨H8.out,hB.alloc hB.size _⟩):G:=h
theorem Ia{G:Prop}(h:G:=by
 go_wp2
 go_roundw
 case rel=>exact⟨k+1,by omega,by go_num,HG,hB.alloc hB.size _⟩
 case measure=>simp[intOf];omega):G:=h
theorem Zkw(A:Option Addr)(n c:Nat)(es:List WE)(w:World)(h:WL w A n c es) :
    Calls Tryz.prog 163 #[.slice A n c] w λe w'=>e=.returned (.int .i64 (Zfr (es.all WE.ok)))/\Below w.heap.size w w':=by
 have V:=h.2.1;have I:=h.2.2.1;unfold maxLen at I;go_in
 go_wp2
 go_loopw [8] (λv wr=>∃ k:Nat,k<=n/\v=.int .i64 k/\Hid (∀ e ∈ es.take k,e.ok=true)/\Below w.heap.size w wr) (λv _=>n-(intOf v).toNat)
 case atStart=>exact⟨0,Qe _,rfl,by unfold Hid;simp,Qd _ _⟩
 case round =>
  obtain⟨k,hk,rfl,ho,hB⟩:=hrel;by_cases hk0:k<n
  ·obtain⟨b,o,e,rfl,he,T,J,hL⟩:=(h.below hB).at_ hk0
   have O:=hL.2.1;have y:=hL.2.2.1;unfold maxLen at y;have HE:=Zb he;have HLen:=Zb hL.len
   have f:Hid (e.ok=true->∀ x ∈ es.take (k+1),x.ok=true):=λhok x hx=>by
    rw[List.take_add_one,HE.out]at hx;rcases List.mem_append.1 hx with hx|hx;exact ho.out x hx;simp at hx;subst hx;exact hok
   have u:Hid (e.ok=false->Ending.returned (.int .i64 8)=.returned (.int .i64 (Zfr (es.all WE.ok)))):=λhok=>by
    have:es.all WE.ok=false:=by
     rw[List.all_eq_false];exact⟨e,List.mem_of_getElem? HE.out,by simp[hok]⟩
    rw[this];rfl
   obtain⟨neg,A1,n1,c1,l1⟩:=e;dsimp only at T J hL O y HLen;clear he;by_cases t1:n1<=4096
   ·by_cases t2:0<n1
    ·obtain⟨b1,o1,rfl,hx⟩:=hL.at_ (k:=n1-1) Gk
     have Y:=Zo hx;by_cases t3:l1[n1-1]?.getD 0=0
     ·have C:(((l1[n1-1]?.getD 0:Nat):Int) == 0)=true:=by simp[t3]
      have H8:=Zb (u.out (Zsi (by rw[HLen.out];exact t2) (by rw[HLen.out];exact t3)));clear t3 hL;exact IG
     have C:(((l1[n1-1]?.getD 0:Nat):Int) == 0)=false:=by simpa using t3
     have HG:=Zb (f.out (Z0d (by rw[HLen.out];exact t2) (by rw[HLen.out];exact t1) (by rw[HLen.out];exact t3)));have U:((n1:Int) == 0)=false:=by simp;omega
     clear t3 hL;cases neg
     all_goals
      exact Ia
    obtain rfl:n1=0:=Gk;cases neg
    ·have HG:=Zb (f.out (by unfold WE.ok;rw[Zp0 HLen.out];rfl))
     clear hL;exact Ia
    have H8:=Zb (u.out (by unfold WE.ok;rw[Zp0 HLen.out];rfl));clear hL;exact IG
   have H8:=Zb (u.out (Zwc (by rw[HLen.out];omega)));clear hL;exact IG
  obtain rfl:k=n:=Gk
  have HA:Hid (es.all WE.ok=true):=by
   unfold Hid;rw[List.all_eq_true];have:=ho.out;rw[Qs (by rw[h.len];exact Qa _)]at this;exact this
  go_wp2
  go_ret;exact⟨by rw[HA.out];rfl,hB⟩
theorem Zdk{A:Option Addr}{n c:Nat}{es:List WE}{w:World}(h:WL w A n c es)(hk:es.all WE.ok=true) :
    Calls Tryz.prog 163 #[.slice A n c] w λe w'=>e=.returned (.int .i64 0)/\Below w.heap.size w w':=
 (Zkw A n c es w h).mono λ_ _ ⟨he,hb⟩=>⟨by rw[he,hk];rfl,hb⟩
theorem Zyd{A:Option Addr}{n c:Nat}{es:List WE}{w:World}(h:WL w A n c es)(hk:es.all WE.ok=false) :
    Calls Tryz.prog 163 #[.slice A n c] w λe w'=>e=.returned (.int .i64 8)/\Below w.heap.size w w':=
 (Zkw A n c es w h).mono λ_ _ ⟨he,hb⟩=>⟨by rw[he,hk];rfl,hb⟩
theorem Zpp(neg:Bool)(A:Option Addr)(n c:Nat)(l:List Nat)(w:World)(h:Lim w A n c l) :
    Calls Tryz.prog 156 #[.agg #[.bool neg,.slice A n c]] w λe w'=>e=.returned (.int .i64 (Zfr (okW neg l)))/\Below w.heap.size w w':=by
 have hW:∀ X t,WL ((w.alloc X).alloc (.cells #[.bool neg,.slice A n c] t)) (some ⟨w.heap.size+1,0,none⟩) 1 1 [⟨neg,A,n,c,l⟩]:=λX t=>by
  have:=WL.one (neg:=neg) (h.alloc X) t;rw[QG]at this;exact this
 have hW:=Zb hW;go_in;go_wp2_with (go_at_call 163;refine(Zkw _ _ _ _ _ (hW.out _ _)).mono ?_;rintro e w1 ⟨rfl,hb⟩);go_ret;exact⟨by simp[WE.ok],((Qd _ _).alloc (Qa _) _).alloc Gh _ |>.trans (hb.mono Gg)⟩
theorem Zhu{va vb:Nat}:(0<=Zcn (digits va) (digits vb)) ↔ vb<=va:=by
 unfold Zcn;rw[Zi,Zi]
 split
 ·rename_i h
  have:=(Zr va ((digits vb).length-1)).1 Gk;have h2:=Zhe (n:=vb) (k:=(digits vb).length-1) Gk;constructor <;> intro <;> omega
 split
 ·rename_i h
  have:=(Zr vb ((digits va).length-1)).1 Gk;have h2:=Zhe (n:=va) (k:=(digits va).length-1) Gk;constructor <;> intro <;> omega
 split
 ·constructor <;> intro <;> omega
 split <;> constructor <;> intro <;> omega
theorem Zli(s:Bool)(a b:Nat):sg s (a+b)=sg s a+sg s b:=by unfold sg;split <;> omega
theorem Zfm{s t:Bool}(h:s≠t){a b d:Nat}(hd:d+b=a):sg s d=sg s a+sg t b:=by
 cases s <;> cases t <;> simp_all [sg] <;> omega
theorem Ft{G:Prop}(h:G:=by
 go_in
 go_wp2
 go_ret;exact⟨rfl,(Below.refl _ _).alloc (Nat.le_refl _) _⟩):G:=h
theorem Zmx(neg:Bool)(A:Option Addr)(n c:Nat)(l:List Nat)(w:World)(h:Lim w A n c l) :
    Calls Tryz.prog 29 #[.agg #[.bool neg,.slice A n c]] w λe w'=>e=.returned (.int .i64 (Zfr (okW neg l)))/\Below w.heap.size w w':=by
 have y:=h.2.1;have o:=h.2.2.1;unfold maxLen at o;have HLen:=Zb h.len;by_cases t1:n<=4096
 ·by_cases t2:0<n
  ·obtain⟨b1,o1,rfl,hx⟩:=h.at_ (k:=n-1) Gk
   have C:=Zo hx;have u:((n:Int) == 0)=false:=by simp;omega
   by_cases t3:l[n-1]?.getD 0=0
   ·have f:(((l[n-1]?.getD 0:Nat):Int) == 0)=true:=by simp[t3]
    rw[Zsi (by rw[HLen.out];exact t2) (by rw[HLen.out];exact t3)];clear t3 h;exact Ft
   have f:(((l[n-1]?.getD 0:Nat):Int) == 0)=false:=by simpa using t3
   rw[Z0d (by rw[HLen.out];exact t2) (by rw[HLen.out];exact t1) (by rw[HLen.out];exact t3)];clear t3 h;cases neg
   all_goals
    exact Ft
  obtain rfl:n=0:=Gk;rw[Zp0 HLen.out];clear h;cases neg
  all_goals
   exact Ft
 rw[Zwc (by rw[HLen.out];omega)];clear h;exact Ft
theorem FQ{G:Prop}(h:G:=by
 go_ret;exact OutL.of_append aE (by rw[List.length_take,h.len];omega) (h.lt.take _) ((Below.refl _ _).alloc (Nat.le_refl _) _) cU (λj hj=>by simp[Value.ownBlock]at hj;omega) HD.out.symm):G:=h
theorem Zd8(A:Option Addr)(n c:Nat)(l:List Nat)(w:World)(h:Lim w A n c l)(hn9:n<=1000000000) :
    Calls Tryz.prog 123 #[.slice A n c] w (OutL w λl'=>l'=digits (val l)):=by
 obtain⟨i0,hi,u,y,e⟩:=info_parts Zdj;have hn:=h.2.1;have hm:=h.2.2.1;unfold maxLen at hm;go_in
 go_wp2
 go_loop [3] (λv=>∃ k:Nat,k<=n/\v=.int .i64 k/\Hid (∀ j,k<=j->l[j]?.getD 0=0)) (λv=>(intOf v).toNat)
 case atStart=>exact⟨n,Qa _,rfl,λj hj=>by rw[Qh (by rw[h.len];exact hj)];rfl⟩
 case round =>
  obtain⟨k,hk,rfl,hz⟩:=hrel;by_cases hk0:0<k
  ·obtain⟨b,o,rfl,C⟩:=h.at_ (k:=k-1) Gk
   by_cases hx:l[k-1]?.getD 0=0;exact Fq;have hb:(((l[k-1]?.getD 0:Nat):Int) == 0)=false:=by simpa using hx
   have HD:=Zb (Zgz hz.out (Or.inr hx) h.lt);clear hx;go_wp2_with (at_builtin;refine Zx _ rfl (.tmp 18) (.tmp 21) 37 rfl w.heap.size 106 i0 _ 1 4 Tryz.underlying37 hi u y e rfl Gk (.slice (some ⟨w.heap.size,0,none⟩) 0 0) 0 [] rfl (Zla _ _ _) _ _ k c ((l.take k).map limb) rfl (by exact((h.take hk).alloc _).reads) (Zek _) (by simp only[maxLen];omega) Gk Gh ?_;intro v1 w1 aE cU f);exact FQ
  obtain rfl:k=0:=Gk;have HD:=Zb (Zgz hz.out (Or.inl rfl) h.lt);go_wp2_with (at_builtin;refine Zx _ rfl (.tmp 18) (.tmp 21) 37 rfl w.heap.size 106 i0 _ 1 4 Tryz.underlying37 hi u y e rfl Gk (.slice (some ⟨w.heap.size,0,none⟩) 0 0) 0 [] rfl (Zla _ _ _) _ _ 0 c ((l.take 0).map limb) rfl (by exact((h.take hk).alloc _).reads) (Zek _) (by simp only[maxLen];omega) Gk Gh ?_;intro v1 w1 aE cU f);exact FQ
theorem Zu{B:Nat}{w w':World}(h:Below B w.drew w'):Below B w w':=⟨h.os,h.tape,h.output,h.size,h.block⟩
theorem Cv{G:Prop}(h:G:=by
 rcases Nat.lt_or_ge vb va with h|h;exact absurd (dJ.out.2 (Nat.le_of_lt h)) fq;exact h):G:=h
theorem Ec{G:Prop}(h:G:=by
 have cf:Below w.heap.size w w3:=(ae.trans ((Zu aa).mono ae.size)).trans (ah.mono (Nat.le_trans ae.size (Zu aa).size))
 go_wp2
 refine bodyPost_ret (v:=.tuple #[.agg #[.bool aD,.slice A3 n3 c3],.int .i64 aL]) (by simp[results,Tryz.results164,go_sem,m3,m4]) rfl ?_;exact ResW.box (HZ l2 cE.2▸bW) cf Gk m7):G:=h
theorem Et{G:Prop}(h:G:=by
 simp only[World.size_alloc]at this;exact this):G:=h
theorem Ev{G:Prop}(h:G:=by
 have:=Blk.new ((w.alloc (.cells #[.bool na,.slice A n c] 39)).alloc (.cells #[.bool nb,.slice B m d] 39)) 39 #[.bool false,.slice none 0 0];simp only[World.size_alloc]at this;exact this):G:=h
theorem Ci{G:Prop}(h:G:=by
 have:=Blk.new ((w.alloc (.cells #[.bool na,.slice A n c] 39)).alloc (.cells #[.bool na,.slice B m d] 39)) 39 #[.bool false,.slice none 0 0];exact Et):G:=h
theorem Zwu(na nb:Bool)(A B:Option Addr)(n c m d:Nat)(va vb:Nat)(w:World)(ha:Lim w A n c (digits va))(hb:Lim w B m d (digits vb))(hn:n<=4096)(hm:m<=4096) :
    Calls Tryz.prog 164 #[.agg #[.bool na,.slice A n c],.agg #[.bool nb,.slice B m d]] w (ResW w (sg na va+sg nb vb)):=by
 obtain⟨cv,J⟩:∃ x:Int,Zcn (digits va) (digits vb)=x:=⟨_,rfl⟩;have HC:=Zb J;have dJ:0<=cv ↔ vb<=va:=by rw[<- J];exact Zhu
 have dJ:=Zb dJ;by_cases hs:na=nb
 ·subst hs
  clear J;have HZ:∀ l:List Nat,val l=val (digits va)+val (digits vb)->sg na (val l)=sg na va+sg na vb:=λl h=>by rw[h,Zi,Zi,Zli]
  go_in;go_wp2_with (go_at_call 186;refine(Zcs _ _ _ _ _ _ _ _ _ (((ha.alloc _).alloc _).alloc _) (((hb.alloc _).alloc _).alloc _)).mono ?_;rintro e w1 ⟨y,f⟩;rw[HC.out]at y;subst y;obtain⟨o,U⟩:=Zc0 f;have T:w.heap.size+1+1<w1.heap.size:=by(have:=f.size;simp at this;omega));have ae:Below w.heap.size w w1:=(((((Qd w.heap.size w).alloc (Qa _) _).alloc Gh _).alloc Gg _).trans (f.mono Gg));have I:=ha.below ae;have u:=hb.below ae;have g0:w1.cell? ⟨w.heap.size,0,none⟩=some (.bool na):=by simp[o,go_sem]
  have g1:w1.cell? ⟨w.heap.size,1,none⟩=some (.slice A n c):=by simp[o,go_sem]
  have f0:w1.cell? ⟨w.heap.size+1,0,none⟩=some (.bool na):=by simp[o,go_sem]
  have g2:w1.cell? ⟨w.heap.size+1,1,none⟩=some (.slice B m d):=by simp[o,go_sem]
  have g7:Blk w1 (w.heap.size+1+1) 39 #[.bool false,.slice none 0 0]:=by
   refine Zc f ?_;exact Ci
  have g3:=g7.cell 0;have g4:=g7.cell 1;have g5:=g7.frozen 0;have g6:=g7.frozen 1;simp at g3 g4
  go_region_held3 (λw'=>w'.cell? ⟨w.heap.size,0,none⟩=some (.bool na)/\w'.cell? ⟨w.heap.size,1,none⟩=some (.slice A n c)/\w'.cell? ⟨w.heap.size+1,0,none⟩=some (.bool na)/\w'.cell? ⟨w.heap.size+1,1,none⟩=some (.slice B m d))
   (((try dsimp only);(repeat' apply Qy);all_goals (first|go_keep|(simp[*,go_sem];done))))
   (first
    | (go_at_call 168;refine(Zs2 _ _ _ _ _ _ _ _ _ (by exact I) (by exact u) Gk Gk).mono ?_;rintro e w2 ⟨A2,n2,c2,l2,rfl,O,cE,aa⟩;have k0:=Za aa g0;have k1:=Za aa g1;have j0:=Za aa f0;have k2:=Za aa g2;have k3:=Za aa g3;have k4:=Za aa g4;have k5:=Zl aa g3 g5;have k6:=Zl aa g4 g6;have k7:=Zc aa g7)
    | (go_at_call 158;refine(Zb8 _ _ _ _ _ _ (by exact O)).mono ?_;rintro e w3 ⟨ah,aD,A3,n3,c3,aL,rfl,bW⟩;have m0:=Za ah k0;have m1:=Za ah k1;have i0:=Za ah j0;have m2:=Za ah k2;have m3:=Za ah k3;have m4:=Za ah k4;have m5:=Zl ah k3 k5;have m6:=Zl ah k4 k6;have m7:=Zc ah k7))
  exact Ec
 have V:(na == nb)=false:=by simpa using hs
 by_cases fq:0<=cv
 ·have C:=dJ.out.1 fq
  have HLE:Hid (m<=n):=by have:=Z5 C;rw[ha.len,hb.len]at this;exact this
  have HVL:Hid (val (digits vb)<=val (digits va)):=by rw[Zi,Zi];exact C
  have HZ:∀ l:List Nat,val l+val (digits vb)=val (digits va)->sg na (val l)=sg na va+sg nb vb:=λl h=>Zfm hs (by rw[Zi,Zi]at h;exact h);clear J C hs;go_in;go_wp2_with (go_at_call 186;refine(Zcs _ _ _ _ _ _ _ _ _ (((ha.alloc _).alloc _).alloc _) (((hb.alloc _).alloc _).alloc _)).mono ?_;rintro e w1 ⟨y,f⟩;rw[HC.out]at y;subst y;obtain⟨o,U⟩:=Zc0 f;have T:w.heap.size+1+1<w1.heap.size:=by(have:=f.size;simp at this;omega));have ae:Below w.heap.size w w1:=(((((Qd w.heap.size w).alloc (Qa _) _).alloc Gh _).alloc Gg _).trans (f.mono Gg));have I:=ha.below ae;have u:=hb.below ae;have g0:w1.cell? ⟨w.heap.size,0,none⟩=some (.bool na):=by simp[o,go_sem]
  have g1:w1.cell? ⟨w.heap.size,1,none⟩=some (.slice A n c):=by simp[o,go_sem]
  have f0:w1.cell? ⟨w.heap.size+1,0,none⟩=some (.bool nb):=by simp[o,go_sem]
  have g2:w1.cell? ⟨w.heap.size+1,1,none⟩=some (.slice B m d):=by simp[o,go_sem]
  have g7:Blk w1 (w.heap.size+1+1) 39 #[.bool false,.slice none 0 0]:=by
   refine Zc f ?_;exact Ev
  have g3:=g7.cell 0;have g4:=g7.cell 1;have g5:=g7.frozen 0;have g6:=g7.frozen 1;simp at g3 g4
  go_region_held3 (λw'=>w'.cell? ⟨w.heap.size,0,none⟩=some (.bool na)/\w'.cell? ⟨w.heap.size,1,none⟩=some (.slice A n c)/\w'.cell? ⟨w.heap.size+1,0,none⟩=some (.bool nb)/\w'.cell? ⟨w.heap.size+1,1,none⟩=some (.slice B m d))
   (((try dsimp only);(repeat' apply Qy);all_goals (first|go_keep|(simp[*,go_sem];done))))
   (first
    | (go_at_call 187;refine(Zkt _ _ _ _ _ _ _ _ _ (by exact I) (by exact u) HLE.out HVL.out Gk).mono ?_;rintro e w2 ⟨A2,n2,c2,l2,rfl,O,cE,aa⟩;have k0:=Za aa g0;have k1:=Za aa g1;have j0:=Za aa f0;have k2:=Za aa g2;have k3:=Za aa g3;have k4:=Za aa g4;have k5:=Zl aa g3 g5;have k6:=Zl aa g4 g6;have k7:=Zc aa g7)
    | (go_at_call 158;refine(Zb8 _ _ _ _ _ _ (by exact O)).mono ?_;rintro e w3 ⟨ah,aD,A3,n3,c3,aL,rfl,bW⟩;have m0:=Za ah k0;have m1:=Za ah k1;have i0:=Za ah j0;have m2:=Za ah k2;have m3:=Za ah k3;have m4:=Za ah k4;have m5:=Zl ah k3 k5;have m6:=Zl ah k4 k6;have m7:=Zc ah k7))
  exact Ec
 have C:va<=vb:=by
   exact Cv
 have HLE:Hid (n<=m):=by have:=Z5 C;rw[ha.len,hb.len]at this;exact this
 have HVL:Hid (val (digits va)<=val (digits vb)):=by rw[Zi,Zi];exact C
 have HZ:∀ l:List Nat,val l+val (digits va)=val (digits vb)->sg nb (val l)=sg na va+sg nb vb:=λl h=>by rw[Int.add_comm];exact Zfm (Ne.symm hs) (by rw[Zi,Zi]at h;exact h)
 clear J C hs;go_in;go_wp2_with (go_at_call 186;refine(Zcs _ _ _ _ _ _ _ _ _ (((ha.alloc _).alloc _).alloc _) (((hb.alloc _).alloc _).alloc _)).mono ?_;rintro e w1 ⟨y,f⟩;rw[HC.out]at y;subst y;obtain⟨o,U⟩:=Zc0 f;have T:w.heap.size+1+1<w1.heap.size:=by(have:=f.size;simp at this;omega));have ae:Below w.heap.size w w1:=(((((Qd w.heap.size w).alloc (Qa _) _).alloc Gh _).alloc Gg _).trans (f.mono Gg));have I:=ha.below ae;have u:=hb.below ae;have g0:w1.cell? ⟨w.heap.size,0,none⟩=some (.bool na):=by simp[o,go_sem]
 have g1:w1.cell? ⟨w.heap.size,1,none⟩=some (.slice A n c):=by simp[o,go_sem]
 have f0:w1.cell? ⟨w.heap.size+1,0,none⟩=some (.bool nb):=by simp[o,go_sem]
 have g2:w1.cell? ⟨w.heap.size+1,1,none⟩=some (.slice B m d):=by simp[o,go_sem]
 have g7:Blk w1 (w.heap.size+1+1) 39 #[.bool false,.slice none 0 0]:=by
  refine Zc f ?_;exact Ev
 have g3:=g7.cell 0;have g4:=g7.cell 1;have g5:=g7.frozen 0;have g6:=g7.frozen 1;simp at g3 g4
 go_region_held3 (λw'=>w'.cell? ⟨w.heap.size,0,none⟩=some (.bool na)/\w'.cell? ⟨w.heap.size,1,none⟩=some (.slice A n c)/\w'.cell? ⟨w.heap.size+1,0,none⟩=some (.bool nb)/\w'.cell? ⟨w.heap.size+1,1,none⟩=some (.slice B m d))
  (((try dsimp only);(repeat' apply Qy);all_goals (first|go_keep|(simp[*,go_sem];done))))
  (first
   | (go_at_call 187;refine(Zkt _ _ _ _ _ _ _ _ _ (by exact u) (by exact I) HLE.out HVL.out Gk).mono ?_;rintro e w2 ⟨A2,n2,c2,l2,rfl,O,cE,aa⟩;have k0:=Za aa g0;have k1:=Za aa g1;have j0:=Za aa f0;have k2:=Za aa g2;have k3:=Za aa g3;have k4:=Za aa g4;have k5:=Zl aa g3 g5;have k6:=Zl aa g4 g6;have k7:=Zc aa g7)
   | (go_at_call 158;refine(Zb8 _ _ _ _ _ _ (by exact O)).mono ?_;rintro e w3 ⟨ah,aD,A3,n3,c3,aL,rfl,bW⟩;have m0:=Za ah k0;have m1:=Za ah k1;have i0:=Za ah j0;have m2:=Za ah k2;have m3:=Za ah k3;have m4:=Za ah k4;have m5:=Zl ah k3 k5;have m6:=Zl ah k4 k6;have m7:=Zc ah k7))
 exact Ec
def BadW(w:World)(e:Ending)(w':World):Prop:=e=.returned (.tuple #[.agg #[.bool false,.slice none 0 0],.int .i64 8])/\Below w.heap.size w w'
theorem Zuk(s:Bool)(v:Nat):sg (!s) v=- sg s v:=by cases s <;> simp[sg]
theorem Z0o(s t:Bool)(a b:Nat):sg (s != t) (a*b)=sg s a*sg t b:=by cases s <;> cases t <;> simp[sg,Int.neg_mul,Int.mul_neg]
theorem Zbv(neg:Bool)(A:Option Addr)(n c:Nat)(l:List Nat)(w:World)(h:Lim w A n c l)(hn9:n<=1000000000) :
    Calls Tryz.prog 74 #[.bool neg,.slice A n c] w (ResW w (sg neg (val l))):=by
 have HI:=Zb (Zr (val l) 4096);have HP:=Zb (@length_digits_pos (val l));go_in;go_wp2_with fail;refine(Zd8 _ _ _ _ _ (h.alloc _) hn9).mono ?_;rintro e w1 ⟨A1,n1,c1,l1,rfl,hL,I,y⟩;subst I;have f:=Zb hL.len;have J:=hL.2.1;have C:=hL.2.2.1;unfold maxLen at C;have u:=Blk.new w 39 #[.bool false,.slice none 0 0];have m7:=Zc y u;have o:Below w.heap.size w w1:=((Qd w.heap.size w).alloc (Qa _) _).trans (y.mono Gh);have m3:=m7.cell 0;have m4:=m7.cell 1;have m5:=m7.frozen 0;have m6:=m7.frozen 1;simp at m3 m4;have HM:=Zb m7;clear m7 u;by_cases h1:n1<=4096
 ·by_cases h2:0<n1
  ·have hd:decide (0<n1)=true:=by simpa using h2
   cases neg
   ·go_wp2_with fail
    refine bodyPost_ret (v:=.tuple #[.agg #[.bool false,.slice A1 n1 c1],.int .i64 0]) (by simp[results,Tryz.results74,go_sem,m3,m4]) rfl ?_;refine ResW.box (.inl ⟨?_,rfl,?_,h1,?_⟩) o (Qa _) HM.out;rw[Z8];exact HI.out.1 (by rw[f.out];exact h1);rw[Zm4];rfl;rw[Z8];exact hL
   go_wp2_with fail;refine bodyPost_ret (v:=.tuple #[.agg #[.bool true,.slice A1 n1 c1],.int .i64 0]) (by simp[results,Tryz.results74,go_sem,m3,m4]) rfl ?_;refine ResW.box (.inl ⟨?_,rfl,?_,h1,?_⟩) o (Qa _) HM.out;rw[Z8];exact HI.out.1 (by rw[f.out];exact h1);rw[Zm4];have:=HP.out.1 (by rw[f.out];exact h2);simp[this];rw[Z8];exact hL
  obtain rfl:n1=0:=Gk;cases neg
  all_goals
   go_wp2_with fail;refine bodyPost_ret (v:=.tuple #[.agg #[.bool false,.slice A1 0 c1],.int .i64 0]) (by simp[results,Tryz.results74,go_sem,m3,m4]) rfl ?_;refine ResW.box (.inl ⟨?_,rfl,?_,h1,?_⟩) o (Qa _) HM.out;rw[Z8];exact HI.out.1 (by rw[f.out];exact h1)
   ·rw[Zm4]
    have:¬ 0<val l:=λhh=>by have:=HP.out.2 hh;rw[f.out]at this;omega
    simp[this]
   rw[Z8];exact hL
 have hp:pw 4096<=val l:=by
   rcases Qf (val l) (pw 4096)with h'|h';have:=HI.out.2 h';rw[f.out]at this;exact absurd this h1;exact h'
 have HPW:=Zb hp;clear hp;go_wp2_with fail;refine bodyPost_ret (v:=.tuple #[.agg #[.bool false,.slice none 0 0],.int .i64 16]) (by simp[results,Tryz.results74,go_sem,m3,m4]) rfl ?_;exact ResW.box (.inr ⟨by rw[Z8];exact HPW.out,rfl,rfl,rfl,rfl,rfl⟩) o (Qa _) HM.out
theorem Cm{G:Prop}(h:G:=by
 rw[hr];go_in
 go_wp2
 go_ret;exact⟨rfl,Below.refl _ _⟩):G:=h
theorem IS{G:Prop}(h:G:=by
 go_wp2
 go_quiet (fail)
 go_wp2
 go_ret;exact⟨Zic HR.out.symm,(by first|exact Zf hB _|exact Zf (Zf hB _) _)⟩):G:=h
theorem Zcl(A B:Option Addr)(n c m d:Nat)(a b:List Nat)(w:World)(ha:Lim w A n c a)(hb:Lim w B m d b) :
    Calls Tryz.prog 73 #[.slice A n c,.slice B m d] w λe w'=>e=.returned (.int .i64 (Zcn a b))/\Below w.heap.size w w':=by
 have O:=ha.2.1;have U:=hb.2.1;have u:=ha.2.2.1;have y:=hb.2.2.1;unfold maxLen at u y;by_cases h1:n<m
 ·have f:(((n:Nat):Int) != m)=true:=by simp;omega
  have hd:decide (n<m)=true:=by simpa using h1
  have hr:Zcn a b=-1:=by unfold Zcn;rw[ha.len,hb.len,Gx h1]
  exact Cm
 by_cases h2:m<n
 ·have f:(((n:Nat):Int) != m)=true:=by simp;omega
  have hd:decide (n<m)=false:=by simpa using h1
  have hr:Zcn a b=1:=by unfold Zcn;rw[ha.len,hb.len,Gw h1,Gx h2]
  exact Cm
 obtain rfl:n=m:=Gk;have f:(((n:Nat):Int) != n)=false:=Gh
 go_in
 go_wp2
 go_loopw [5] (λiv wr=>∃ k:Nat,k<=n/\iv=.int .i64 ((n:Int)-1-k)/\Hid (∀ j,n-k<=j->j<n->a[j]?.getD 0=b[j]?.getD 0)/\Below w.heap.size w wr) (λiv _=>(intOf iv+1).toNat)
 case atStart=>exact⟨0,Qe _,by go_num,λj h h'=>by omega,Qd _ _⟩
 case round =>
  obtain⟨k,hk,rfl,he,hB⟩:=hrel;by_cases hlt:k<n
  ·obtain⟨ba,oa,rfl,J⟩:=(ha.below hB).at_ (k:=n-1-k) Gk
   obtain⟨bb,ob,rfl,I⟩:=(hb.below hB).at_ (k:=n-1-k) Gk;have T:=Zb ha.len;have V:=Zb hb.len;by_cases t1:a[n-1-k]?.getD 0<b[n-1-k]?.getD 0
   ·have C:decide (a[n-1-k]?.getD 0<b[n-1-k]?.getD 0)=true:=by simpa using t1
    have HR:Hid (Zcn a b=-1):=by
     have:=Zl2 ha.len hb.len ha.lt Gk (λj h h'=>he.out j Gk h') t1;unfold Hid Zcn;rw[ha.len,hb.len];simp[this]
    exact IS
   have C:decide (a[n-1-k]?.getD 0<b[n-1-k]?.getD 0)=false:=by simpa using t1
   by_cases t2:b[n-1-k]?.getD 0<a[n-1-k]?.getD 0
   ·have o:decide (b[n-1-k]?.getD 0<a[n-1-k]?.getD 0)=true:=by simpa using t2
    have HR:Hid (Zcn a b=1):=by
     have:=Zl2 hb.len ha.len hb.lt Gk (λj h h'=>(he.out j Gk h').symm) t2;unfold Hid Zcn;rw[ha.len,hb.len];simp[this];omega
    go_wp2
    go_quiet (fail)
    exact IS
   have o:decide (b[n-1-k]?.getD 0<a[n-1-k]?.getD 0)=false:=by simpa using t2
   have HE:Hid (∀ j,n-(k+1)<=j->j<n->a[j]?.getD 0=b[j]?.getD 0):=λj h h'=>by
    rcases Qf j (n-k)with h3|h3
    ·obtain rfl:j=n-1-k:=Gk
     omega
    exact he.out j h3 h'
   go_wp2
   go_quiet (fail)
   go_wp2
   go_quiet (fail)
   go_wp2
   go_roundw
   case rel=>exact⟨k+1,by omega,by go_num,HE,(by first|exact Zf hB _|exact Zf (Zf hB _) _)⟩
   case measure=>simp[intOf];omega
  obtain rfl:k=n:=Gk
  have HR:Hid (Zcn a b=0):=by
   have:=Z0w ha.len hb.len (λj hj=>he.out j Gk hj);unfold Hid;rw[this,Zo6]
  go_wp2
  go_ret;exact⟨Zic HR.out.symm,hB⟩
def Zge(na nb:Bool)(a b:List Nat):Bool:=(na == nb) && (Zcn a b == 0)
theorem Zdx(na nb:Bool)(A B:Option Addr)(n c m d:Nat)(a b:List Nat)(w:World)(ha:Lim w A n c a)(hb:Lim w B m d b) :
    Calls Tryz.prog 30 #[.agg #[.bool na,.slice A n c],.agg #[.bool nb,.slice B m d]] w λe w'=>e=.returned (.bool (Zge na nb a b))/\Below w.heap.size w w':=by
 by_cases h:na=nb
 ·subst h
  have hs:Zge na na a b=(Zcn a b == 0):=by simp[Zge]
  rw[hs];generalize hx:Zcn a b=x at *;have HX:=Zb hx;clear hx hs;go_in;go_wp2_with (go_at_call 73;refine(Zcl _ _ _ _ _ _ _ _ _ ((ha.alloc _).alloc _) ((hb.alloc _).alloc _)).mono ?_;rintro e w1 ⟨he,o⟩;rw[HX.out]at he;subst he);go_ret;exact⟨rfl,(((Qd w.heap.size w).alloc (Qa _) _).alloc Gh _).trans (o.mono Gg)⟩
 have f:(na == nb)=false:=by simpa using h
 have hs:Zge na nb a b=false:=by simp[Zge,f]
 rw[hs];clear hs;go_in
 go_wp2
 go_ret;exact⟨rfl,((Qd w.heap.size w).alloc (Qa _) _).alloc Gh _⟩
def RPlus(w:World)(a b:List Nat)(k carry:Nat)(v:Value)(wr:World):Prop:=
 ∃ l,OwnL 106 wr w.heap.size v l/\l.length=k/\carry<=1/\val l+pw k*carry=val (a.take k)+val (b.take k)/\Below w.heap.size w wr
theorem RPlus.step{w w1 wb:World}{a b l:List Nat}{k carry:Nat}{v':Value}{X:Int}{row:Option Nat}(hlen:l.length=k)(hlt:Lt32 l)(hc:carry<=1)
    (hI:val l+pw k*carry=val (a.take k)+val (b.take k)) (hB:Below w.heap.size w wb) (hown:w1.ownsRow w.heap.size 106 1 v' (k+1) (l.map limb ++ [.int .u32 X]))
    (hg:wb.grownBy w1 row) (hr:∀ j,row=some j->w.heap.size<=j) (ha:a[k]?.getD 0<4294967296) (hb:b[k]?.getD 0<4294967296)
    (hX:X=((carry+a[k]?.getD 0+b[k]?.getD 0)%4294967296:Nat)):RPlus w a b (k+1) ((carry+a[k]?.getD 0+b[k]?.getD 0)/4294967296) v' w1:=by
 refine⟨l ++ [(carry+a[k]?.getD 0+b[k]?.getD 0)%4294967296],OwnL.snoc hlen.symm hown hlt hX (QD _ Gj),by simp[hlen],by omega,?_,hB.grown hg hB.size hr⟩;rw[Zeq,hlen,Zac,Zac,Za7];have e:(carry+a[k]?.getD 0+b[k]?.getD 0)%4294967296+4294967296*((carry+a[k]?.getD 0+b[k]?.getD 0)/4294967296)=carry+a[k]?.getD 0+b[k]?.getD 0:=Nat.mod_add_div _ _;generalize (carry+a[k]?.getD 0+b[k]?.getD 0)%4294967296=s at *;generalize (carry+a[k]?.getD 0+b[k]?.getD 0)/4294967296=q at *;have:pw k*(s+4294967296*q)=pw k*(carry+a[k]?.getD 0+b[k]?.getD 0):=by rw[e]
 grind
theorem RPlus.stop{w w1 wb:World}{a b l:List Nat}{k carry:Nat}{v':Value}{row:Option Nat}(hlen:l.length=k)(hlt:Lt32 l)(hc:carry<=1)
    (hI:val l+pw k*carry=val (a.take k)+val (b.take k)) (hB:Below w.heap.size w wb) (hown:w1.ownsRow w.heap.size 106 1 v' (k+1) (l.map limb ++ [.int .u32 carry]))
    (hg:wb.grownBy w1 row) (hr:∀ j,row=some j->w.heap.size<=j) (ha:a.length<=k) (hb:b.length<=k):OutL w (λl=>l.length=k+1/\val l=val a+val b) (.returned v') w1:=by
 refine OutL.of_own (OwnL.snoc hlen.symm hown hlt rfl Gk) (hB.grown hg hB.size hr) ⟨by simp[hlen],?_⟩;rw[Zeq,hlen,hI,Zad ha,Zad hb]
theorem Zzb(A B:Option Addr)(n c m d:Nat)(a b:List Nat)(w:World)(ha:Lim w A n c a)(hb:Lim w B m d b)(hn9:n<=1000000000)(hm9:m<=1000000000) :
    Calls Tryz.prog 169 #[.slice A n c,.slice B m d] w (OutL w λl=>l.length=max n m+1/\val l=val a+val b):=by
 obtain⟨i0,hi,u,C,I⟩:=info_parts Zdj;have a6:=ha.2.1;have a9:=hb.2.1;have a0:=ha.2.2.1;have a1:=hb.2.2.1;unfold maxLen at a0 a1;have U:=Zb ha.len;have V:=Zb hb.len;obtain⟨N,hN,a7,b0,a4⟩:∃ N,N=max n m/\n<=N/\m<=N/\N<=1000000000:=⟨_,rfl,by omega,by omega,by omega⟩;rw[<- hN];have HN:=Zb hN;clear hN;go_in
 go_wp2
 go_loopw [5,6,7] (λov cv iv wr=>∃ k carry:Nat,k<=N/\cv=.int .u64 carry/\iv=.int .i64 k/\RPlus w a b k carry ov wr) (λ_ _ iv _=>N-(intOf iv).toNat)
 case atStart=>exact⟨0,0,Qe _,rfl,rfl,[],OwnL.nil _ _ _,rfl,by omega,by simp[val],Qd _ _⟩
 case round =>
  obtain⟨k,carry,hk,rfl,rfl,l,e,J,y,hI,hB⟩:=hrel;have HLen:=Zb J;have HI:=Zb hI;clear J hI;have a8:=ha.lt.get k;have a5:=hb.lt.get k;by_cases h1:k<n
  ·obtain⟨ba,oa,rfl,a3⟩:=(ha.below hB).at_ h1
   by_cases h2:k<m
   ·obtain⟨bb,ob,rfl,Y⟩:=(hb.below hB).at_ h2
    go_wp2_with (at_builtin;refine Zx _ rfl (.tmp 42) (.tmp 45) 37 rfl w.heap.size 106 i0 _ 1 4 Tryz.underlying37 hi u C I rfl Gk _ k (l.map limb) rfl (by have:=HLen.out;subst this;exact e.1.alloc _) _ _ 1 1 _ rfl (Zbx _ _ _) (by simp[Value.oneCell']) (by simp only[maxLen];omega) Gk Gb ?_;intro v1 w1 f h o)
    go_roundw
    case rel=>exact⟨k+1,_,by omega,by rw[show ((carry:Int)+((a[k]?.getD 0:Nat):Int)+((b[k]?.getD 0:Nat):Int))/4294967296=(((carry+a[k]?.getD 0+b[k]?.getD 0)/4294967296:Nat):Int) by omega],by go_num,RPlus.step HLen.out e.2 y HI.out (hB.alloc hB.size _) f h e.row_ge (ha.lt.get k) (hb.lt.get k) Gk⟩
    case measure=>simp[intOf];omega
   have O:=Zb (getD_none (l:=b) (i:=k) (by rw[V.out];omega));go_wp2_with (at_builtin;refine Zx _ rfl (.tmp 42) (.tmp 45) 37 rfl w.heap.size 106 i0 _ 1 4 Tryz.underlying37 hi u C I rfl Gk _ k (l.map limb) rfl (by have:=HLen.out;subst this;exact e.1.alloc _) _ _ 1 1 _ rfl (Zbx _ _ _) (by simp[Value.oneCell']) (by simp only[maxLen];omega) Gk Gb ?_;intro v1 w1 f h o)
   go_roundw
   case rel=>exact⟨k+1,_,by omega,by rw[O.out];rw[show ((carry:Int)+((a[k]?.getD 0:Nat):Int))/4294967296=(((carry+a[k]?.getD 0+0)/4294967296:Nat):Int) by omega],by go_num,RPlus.step HLen.out e.2 y HI.out (hB.alloc hB.size _) f h e.row_ge (ha.lt.get k) (hb.lt.get k) (by rw[O.out];omega)⟩
   case measure=>simp[intOf];omega
  have T:=Zb (getD_none (l:=a) (i:=k) (by rw[U.out];omega));by_cases h2:k<m
  ·obtain⟨bb,ob,rfl,Y⟩:=(hb.below hB).at_ h2
   go_wp2_with (at_builtin;refine Zx _ rfl (.tmp 42) (.tmp 45) 37 rfl w.heap.size 106 i0 _ 1 4 Tryz.underlying37 hi u C I rfl Gk _ k (l.map limb) rfl (by have:=HLen.out;subst this;exact e.1.alloc _) _ _ 1 1 _ rfl (Zbx _ _ _) (by simp[Value.oneCell']) (by simp only[maxLen];omega) Gk Gb ?_;intro v1 w1 f h o)
   go_roundw
   case rel=>exact⟨k+1,_,by omega,by rw[T.out];rw[show ((carry:Int)+((b[k]?.getD 0:Nat):Int))/4294967296=(((carry+0+b[k]?.getD 0)/4294967296:Nat):Int) by omega],by go_num,RPlus.step HLen.out e.2 y HI.out (hB.alloc hB.size _) f h e.row_ge (ha.lt.get k) (hb.lt.get k) (by rw[T.out];omega)⟩
   case measure=>simp[intOf];omega
  have a2:=Zb (show k=N by have:=HN.out;omega);go_wp2_with (at_builtin;refine Zx _ rfl (.tmp 49) (.tmp 52) 37 rfl w.heap.size 106 i0 _ 1 4 Tryz.underlying37 hi u C I rfl Gk _ k (l.map limb) rfl (by have:=HLen.out;subst this;exact e.1.alloc _) _ _ 1 1 _ rfl (Zbx _ _ _) (by simp[Value.oneCell']) (by simp only[maxLen];omega) Gk Gb ?_;intro v1 w1 f h o);go_ret;rw[<- a2.out];exact RPlus.stop HLen.out e.2 y HI.out (hB.alloc hB.size _) f h e.row_ge (by rw[U.out];omega) (by rw[V.out];omega)
theorem Zv0(A B:Option Addr)(n c m d:Nat)(a b:List Nat)(w:World)(ha:Lim w A n c a)(hb:Lim w B m d b)(hn:n<=1000000000)(hm:m<=1000000000) :
    Calls Tryz.prog 145 #[.slice A n c,.slice B m d] w (OutL w λl=>l.length=n+m/\val l=val a*val b):=by
 obtain⟨i0,hi,f,o,u⟩:=info_parts Zdj;have a0:=Zgs (P:=Tryz.prog) 37 106 Tryz.underlying37 hi f o u ((n:Int)+m) (n+m) Gk Gk;have Y:=ha.2.1;have a1:=hb.2.1;have e:=ha.2.2.1;have h:=hb.2.2.1;unfold maxLen at e h;have bS:=Zb ha.len;have dp:=Zb hb.len;go_in
 go_wp2
 go_loopw [6] (λiv wr=>∃ i:Nat,i<=n/\iv=.int .i64 i/\Times1 w a b w.heap.size i 0 0 wr) (λiv _=>n-(intOf iv).toNat)
 case atStart=>exact⟨0,Qe _,rfl,by have:=Times1.start w a b;rw[ha.len,hb.len]at this;exact this⟩
 case round =>
  obtain⟨i,T,rfl,hP⟩:=hrel;by_cases hlt1:i<n
  ·have C:Below w.heap.size w wr:=by obtain⟨out,h1,h2,h3,h4,h5,h6,h7⟩:=hP;exact h7
   obtain⟨ba,oa,rfl,V⟩:=(ha.below C).at_ hlt1;have I:=ha.lt.get i;obtain⟨wo,rfl⟩:=Gy wr
   go_wp2
   go_loopw [7,8] (λcv kv wr=>∃ k carry:Nat,k<=m/\cv=.int .u64 carry/\kv=.int .i64 k/\Times1 w a b w.heap.size i k carry wr) (λ_ kv _=>m-(intOf kv).toNat)
   case atStart=>exact⟨0,0,Qe _,rfl,rfl,hP⟩
   case round =>
    obtain⟨k,carry,hk,rfl,rfl,hP⟩:=hrel;by_cases hlt2:k<m
    ·obtain⟨out,ap,ar,bz,hz,hI,cS,hB⟩:=hP
     have hz:=Zb hz;have hI:=Zb hI;have ar:=Zb ar;have fG:=ap.lt;obtain⟨bb,ob,rfl,U⟩:=(hb.below hB).at_ hlt2;have y:=hb.lt.get k;have dq:=ap.cell (i+k);rw[Zas out (i+k) (by rw[ar.out,bS.out,dp.out];omega)]at dq;have J:=bz.get (i+k);have ft:=ap.frozen (i+k);have O:=(ha.below hB).cell hlt1;have s1:IntKind.i64.wrap ((i:Int)+(k:Int))=(i:Int)+(k:Int):=IntWalk.i64_in _ Gk;have s2:0<=(i:Int)+(k:Int):=Gk;have s3:((i:Int)+(k:Int)).toNat=i+k:=Gk
     go_wp2
     go_quiet (fail)
     clear s1 s2 s3
     go_wp2
     go_roundw
     case rel =>
      rw[Zwx cS I y J,Zn6,Zmt];exact⟨k+1,_,by omega,rfl,by go_num,Times1.step (wr:=wr.drewN nq) ap ar.out bz hz.out hI.out cS (Zf hB _) (by rw[bS.out];exact hlt1) (by rw[dp.out];exact hlt2) ha.lt hb.lt (QD _ Gj) Gk⟩
     case measure=>simp[intOf];omega
    exact EO
  exact Fs
def RMinus(w:World)(a b:List Nat)(k borrow:Nat)(v:Value)(wr:World):Prop:=
 ∃ l,OwnL 106 wr w.heap.size v l/\l.length=k/\borrow<=1/\val l+val (b.take k)=val (a.take k)+pw k*borrow/\Below w.heap.size w wr
theorem RMinus.step{w w1 wb:World}{a b l:List Nat}{k borrow q s:Nat}{v':Value}{X:Int}{row:Option Nat}(hlen:l.length=k)(hlt:Lt32 l)(hq:q<=1)
    (hI:val l+val (b.take k)=val (a.take k)+pw k*borrow) (hB:Below w.heap.size w wb) (hown:w1.ownsRow w.heap.size 106 1 v' (k+1) (l.map limb ++ [.int .u32 X]))
    (hg:wb.grownBy w1 row) (hr:∀ j,row=some j->w.heap.size<=j) (hs:s<4294967296) (hX:X=s) (he:s+b[k]?.getD 0+borrow=a[k]?.getD 0+4294967296*q):RMinus w a b (k+1) q v' w1:=by
 refine⟨l ++ [s],OwnL.snoc hlen.symm hown hlt hX hs,by simp[hlen],hq,?_,hB.grown hg hB.size hr⟩;rw[Zeq,hlen,Zac,Zac,Za7];have:pw k*(s+b[k]?.getD 0+borrow)=pw k*(a[k]?.getD 0+4294967296*q):=by rw[he]
 grind
theorem RMinus.stop{w wr:World}{a b:List Nat}{n borrow:Nat}{v:Value}(h:RMinus w a b n borrow v wr)(ha:a.length<=n)(hb:b.length<=n)(hab:val b<=val a) :
    ∃ A c l,v=.slice A n c/\Lim wr A n c l/\val l=val a-val b/\Below w.heap.size w wr:=by
 obtain⟨l,e,f,hq,hI,hB⟩:=h;obtain⟨A,c,hv,hL⟩:=e.lim;rw[f]at hv hL;refine⟨A,c,l,hv,hL,?_,hB⟩;rw[Zad ha,Zad hb]at hI;have:=hL.lt_pw;exact IN
theorem Zoc(A B:Option Addr)(n c m d:Nat)(a b:List Nat)(w:World)(ha:Lim w A n c a)(hb:Lim w B m d b)(hmn:m<=n)(O:val b<=val a)(hn9:n<=1000000000) :
    Calls Tryz.prog 170 #[.slice A n c,.slice B m d] w (OutL w λl=>l=digits (val a-val b)):=by
 obtain⟨i0,hi,y,C,I⟩:=info_parts Zdj;have b0:=ha.2.1;have b2:=hb.2.1;have Y:=ha.2.2.1;have a0:=hb.2.2.1;unfold maxLen at Y a0;have a2:=Zb ha.len;have V:=Zb hb.len;have O:=Zb O;go_in
 go_wp2
 go_loopw [5,6,7] (λov cv iv wr=>∃ k borrow:Nat,k<=n/\cv=.int .i64 borrow/\iv=.int .i64 k/\RMinus w a b k borrow ov wr) (λ_ _ iv _=>n-(intOf iv).toNat)
 case atStart=>exact⟨0,0,Qe _,rfl,rfl,[],OwnL.nil _ _ _,rfl,by omega,by simp[val],Qd _ _⟩
 case round =>
  obtain⟨k,borrow,hk,rfl,rfl,hP⟩:=hrel;by_cases h1:k<n
  ·obtain⟨l,f,J,a8,hI,hB⟩:=hP
   have HLen:=Zb J;have HI:=Zb hI;clear J hI;have b1:=ha.lt.get k;have a9:=hb.lt.get k;obtain⟨ba,oa,rfl,a7⟩:=(ha.below hB).at_ h1;by_cases h2:k<m
   ·obtain⟨bb,ob,rfl,a6⟩:=(hb.below hB).at_ h2
    by_cases h3:a[k]?.getD 0<borrow+b[k]?.getD 0
    ·go_wp2_with (at_builtin;refine Zx _ rfl (.tmp 37) (.tmp 40) 37 rfl w.heap.size 106 i0 _ 1 4 Tryz.underlying37 hi y C I rfl Gk _ k (l.map limb) rfl (by have:=HLen.out;subst this;exact f.1.alloc _) _ _ 1 1 _ rfl (Zbx _ _ _) (by simp[Value.oneCell']) (by simp only[maxLen];omega) Gk Gb ?_;intro v1 w1 h o u)
     go_roundw
     case rel=>exact⟨k+1,1,by omega,by go_num,by go_num,RMinus.step (s:=a[k]?.getD 0+4294967296-borrow-b[k]?.getD 0) HLen.out f.2 Gk HI.out (hB.alloc hB.size _) h o f.row_ge Gk Gk Gk⟩
     case measure=>simp[intOf];omega
    go_wp2_with (at_builtin;refine Zx _ rfl (.tmp 37) (.tmp 40) 37 rfl w.heap.size 106 i0 _ 1 4 Tryz.underlying37 hi y C I rfl Gk _ k (l.map limb) rfl (by have:=HLen.out;subst this;exact f.1.alloc _) _ _ 1 1 _ rfl (Zbx _ _ _) (by simp[Value.oneCell']) (by simp only[maxLen];omega) Gk Gb ?_;intro v1 w1 h o u)
    go_roundw
    case rel=>exact⟨k+1,0,by omega,by go_num,by go_num,RMinus.step (s:=a[k]?.getD 0-borrow-b[k]?.getD 0) HLen.out f.2 Gk HI.out (hB.alloc hB.size _) h o f.row_ge Gk Gk Gk⟩
    case measure=>simp[intOf];omega
   have U:=Zb (getD_none (l:=b) (i:=k) (by rw[V.out];omega));by_cases h3:a[k]?.getD 0<borrow
   ·go_wp2_with (at_builtin;refine Zx _ rfl (.tmp 37) (.tmp 40) 37 rfl w.heap.size 106 i0 _ 1 4 Tryz.underlying37 hi y C I rfl Gk _ k (l.map limb) rfl (by have:=HLen.out;subst this;exact f.1.alloc _) _ _ 1 1 _ rfl (Zbx _ _ _) (by simp[Value.oneCell']) (by simp only[maxLen];omega) Gk Gb ?_;intro v1 w1 h o u)
    go_roundw
    case rel=>exact⟨k+1,1,by omega,by go_num,by go_num,RMinus.step (s:=a[k]?.getD 0+4294967296-borrow) HLen.out f.2 Gk HI.out (hB.alloc hB.size _) h o f.row_ge Gk Gk (by rw[U.out];omega)⟩
    case measure=>simp[intOf];omega
   go_wp2_with (at_builtin;refine Zx _ rfl (.tmp 37) (.tmp 40) 37 rfl w.heap.size 106 i0 _ 1 4 Tryz.underlying37 hi y C I rfl Gk _ k (l.map limb) rfl (by have:=HLen.out;subst this;exact f.1.alloc _) _ _ 1 1 _ rfl (Zbx _ _ _) (by simp[Value.oneCell']) (by simp only[maxLen];omega) Gk Gb ?_;intro v1 w1 h o u)
   go_roundw
   case rel=>exact⟨k+1,0,by omega,by go_num,by go_num,RMinus.step (s:=a[k]?.getD 0-borrow) HLen.out f.2 Gk HI.out (hB.alloc hB.size _) h o f.row_ge Gk Gk (by rw[U.out];omega)⟩
   case measure=>simp[intOf];omega
  obtain rfl:k=n:=Gk;obtain⟨A2,c2,l2,rfl,a4,T,hB⟩:=hP.stop (by rw[a2.out];omega) (by rw[V.out];omega) O.out;have T:=Zb T;clear hP;go_wp2_with (go_at_call 123;refine(Zd8 _ _ _ _ _ a4 hn9).mono ?_;rintro e w3 ⟨A3,n3,c3,l3,rfl,a1,a3,a5⟩);go_ret;exact⟨_,_,_,_,rfl,a1,by rw[a3,T.out],hB.trans (a5.mono hB.size)⟩
theorem Zbw{neg:Bool}{A:Option Addr}{n c:Nat}{l:List Nat}{w:World}(h:Lim w A n c l)(hk:okW neg l=true) :
    Calls Tryz.prog 29 #[.agg #[.bool neg,.slice A n c]] w λe w'=>e=.returned (.int .i64 0)/\Below w.heap.size w w':=
 (Zmx neg A n c l w h).mono λ_ _ ⟨he,hb⟩=>⟨by rw[he,hk];rfl,hb⟩
theorem Zl9{neg:Bool}{A:Option Addr}{n c:Nat}{l:List Nat}{w:World}(h:Lim w A n c l)(hk:okW neg l=false) :
    Calls Tryz.prog 29 #[.agg #[.bool neg,.slice A n c]] w λe w'=>e=.returned (.int .i64 8)/\Below w.heap.size w w':=
 (Zmx neg A n c l w h).mono λ_ _ ⟨he,hb⟩=>⟨by rw[he,hk];rfl,hb⟩
theorem Ze6{na nb:Bool}{A B:Option Addr}{n c m d:Nat}{la lb:List Nat}{w:World}(hLa:Lim w A n c la)(hLb:Lim w B m d lb)(hk:(okW na la && okW nb lb)=true) :
    Calls Tryz.prog 97 #[.agg #[.bool na,.slice A n c],.agg #[.bool nb,.slice B m d]] w λe w'=>e=.returned (.int .i64 0)/\Below w.heap.size w w':=by
 have u:Below w.heap.size w ((w.alloc (.cells #[.bool na,.slice A n c] 39)).alloc (.cells #[.bool nb,.slice B m d] 39)):=((Qd w.heap.size w).alloc (Qa _) _).alloc Gh _;obtain⟨ka,kb⟩:okW na la=true/\okW nb lb=true:=by simpa using hk
 go_in;go_wp2_with fail;refine(Zbw (hLa.below u) (by first|assumption|simp_all)).mono ?_;rintro e w1 ⟨rfl,o⟩;obtain⟨f,C⟩:=Zc0 o;have I:w.heap.size+1<w1.heap.size:=by have:=o.size;simp at this;omega
 have h:Below w.heap.size w w1:=u.trans (o.mono Gg);have g0:w1.cell? ⟨w.heap.size,0,none⟩=some (.bool na):=by simp[f,go_sem]
 have g1:w1.cell? ⟨w.heap.size,1,none⟩=some (.slice A n c):=by simp[f,go_sem]
 have g2:w1.cell? ⟨w.heap.size+1,0,none⟩=some (.bool nb):=by simp[f,go_sem]
 have g3:w1.cell? ⟨w.heap.size+1,1,none⟩=some (.slice B m d):=by simp[f,go_sem]
 clear f C;go_wp2_with fail;refine(Zbw (hLb.below h) (by first|assumption|simp_all)).mono ?_;rintro e w2 ⟨rfl,y⟩;go_wp2_with fail;go_ret;exact⟨rfl,h.trans (y.mono h.size)⟩
theorem EA{G:Prop}(h:G:=by
 refine bodyPost_ret (v:=.tuple #[.agg #[.bool aD,.slice A3 n3 c3],.int .i64 aL]) (by simp[results,Tryz.results124,go_sem,m3,m4]) rfl ?_;exact ResW.box (HZ▸bW) cf Gk m7):G:=h
theorem CT{G:Prop}(h:G:=by
 have cf:Below w.heap.size w w3:=(ae.trans ((Zu aa).mono ae.size)).trans (ah.mono (Nat.le_trans ae.size (Zu aa).size))
 go_wp2
 have HZ:=HZZ l2 cE;exact EA):G:=h
theorem Ze9(na nb:Bool)(A B:Option Addr)(n c m d:Nat)(va vb:Nat)(w:World)(ha:Lim w A n c (digits va))(hb:Lim w B m d (digits vb))(hn:n<=4096)(hm:m<=4096) :
    Calls Tryz.prog 124 #[.agg #[.bool na,.slice A n c],.agg #[.bool nb,.slice B m d]] w (ResW w (sg na va+sg nb vb)):=by
 have y:Below w.heap.size w (((w.alloc (.cells #[.bool na,.slice A n c] 39)).alloc (.cells #[.bool nb,.slice B m d] 39)).alloc (.cells #[.bool false,.slice none 0 0] 39)):=(((Qd w.heap.size w).alloc (Qa _) _).alloc Gh _).alloc Gg _;have y:=Zb y;obtain⟨cv,T⟩:∃ x:Int,Zcn (digits va) (digits vb)=x:=⟨_,rfl⟩;have HC:=Zb T;have dJ:0<=cv ↔ vb<=va:=by rw[<- T];exact Zhu
 have dJ:=Zb dJ;have HLA:=Zb ha.len;have HLB:=Zb hb.len;by_cases hs:na=nb
 ·subst hs
  clear T;have HZZ:∀ l:List Nat,val l=val (digits va)+val (digits vb)->sg na (val l)=sg na va+sg na vb:=λl h=>by rw[h,Zi,Zi,Zli]
  go_in;go_wp2_with fail;have ae:Below w.heap.size w (((w.alloc (.cells #[.bool na,.slice A n c] 39)).alloc (.cells #[.bool na,.slice B m d] 39)).alloc (.cells #[.bool false,.slice none 0 0] 39)):=(((Qd w.heap.size w).alloc (Qa _) _).alloc Gh _).alloc Gg _;have J:=ha.below ae;have u:=hb.below ae
  have g7:Blk (((w.alloc (.cells #[.bool na,.slice A n c] 39)).alloc (.cells #[.bool na,.slice B m d] 39)).alloc (.cells #[.bool false,.slice none 0 0] 39)) (w.heap.size+1+1) 39 #[.bool false,.slice none 0 0]:=by
   exact Ci
  generalize hWW:(((w.alloc (.cells #[.bool na,.slice A n c] 39)).alloc (.cells #[.bool na,.slice B m d] 39)).alloc (.cells #[.bool false,.slice none 0 0] 39))=w1 at *;have g0:w1.cell? ⟨w.heap.size,0,none⟩=some (.bool na):=by rw[<- hWW];simp[go_sem]
  have g1:w1.cell? ⟨w.heap.size,1,none⟩=some (.slice A n c):=by rw[<- hWW];simp[go_sem]
  have g2:w1.cell? ⟨w.heap.size+1,0,none⟩=some (.bool na):=by rw[<- hWW];simp[go_sem]
  have g3:w1.cell? ⟨w.heap.size+1,1,none⟩=some (.slice B m d):=by rw[<- hWW];simp[go_sem]
  have V:w.heap.size+1+1<w1.heap.size:=by rw[<- hWW];simp
  clear hWW;have g5:=g7.cell 0;have g6:=g7.cell 1;have g8:=g7.frozen 0;have g9:=g7.frozen 1;simp at g5 g6
  go_region_held3 (λw'=>w'.cell? ⟨w.heap.size,0,none⟩=some (.bool na)/\w'.cell? ⟨w.heap.size,1,none⟩=some (.slice A n c)/\w'.cell? ⟨w.heap.size+1,0,none⟩=some (.bool na)/\w'.cell? ⟨w.heap.size+1,1,none⟩=some (.slice B m d))
   (((try dsimp only);(repeat' apply Qy);all_goals (first|go_keep|(simp[*,go_sem];done))))
   (first
    | (go_at_call 169;refine(Zzb _ _ _ _ _ _ _ _ _ (by exact J) (by exact u) Gk Gk).mono ?_;rintro e w2 ⟨A2,n2,c2,l2,rfl,C,cE,aa⟩;have k0:=Za aa g0;have k1:=Za aa g1;have j0:=Za aa g2;have k2:=Za aa g3;have k3:=Za aa g5;have k4:=Za aa g6;have k5:=Zl aa g5 g8;have k6:=Zl aa g6 g9;have k7:=Zc aa g7)
    | (go_at_call 74;refine(Zbv _ _ _ _ _ _ (by exact C) (by have:=C.len;rw[cE.1]at this;omega)).mono ?_;rintro e w3 ⟨ah,aD,A3,n3,c3,aL,rfl,bW⟩;have m0:=Za ah k0;have m1:=Za ah k1;have i0:=Za ah j0;have m2:=Za ah k2;have m3:=Za ah k3;have m4:=Za ah k4;have m5:=Zl ah k3 k5;have m6:=Zl ah k4 k6;have m7:=Zc ah k7))
  have cf:Below w.heap.size w w3:=(ae.trans ((Zu aa).mono ae.size)).trans (ah.mono (QZ ae.size (Zu aa).size))
  go_wp2
  have HZ:=HZZ l2 cE.2;exact EA
 have Y:(na == nb)=false:=by simpa using hs
 by_cases fq:0<=cv
 ·have I:=dJ.out.1 fq
  have HLE:Hid (m<=n):=by have:=Z5 I;rw[ha.len,hb.len]at this;exact this
  have HVL:Hid (val (digits vb)<=val (digits va)):=by rw[Zi,Zi];exact I
  have HZZ:∀ l:List Nat,l=digits (val (digits va)-val (digits vb))->sg na (val l)=sg na va+sg nb vb:=λl h=>Zfm hs (by rw[h,Zi,Zi,Zi];omega)
  have HLL:Hid ((digits (val (digits va)-val (digits vb))).length<=4096):=by
   have:=Z5 (show val (digits va)-val (digits vb)<=va by rw[Zi,Zi];omega);rw[HLA.out]at this;exact QZ this hn
  clear T I hs;go_in;go_wp2_with fail;refine(Zcl _ _ _ _ _ _ _ _ _ (ha.below y.out) (hb.below y.out)).mono ?_;rintro e w1 ⟨O,o⟩;rw[HC.out]at O;subst O;obtain⟨f,U⟩:=Zc0 o;have V:w.heap.size+1+1<w1.heap.size:=by have:=o.size;simp at this;omega
  have ae:Below w.heap.size w w1:=y.out.trans (o.mono Gg);have g0:w1.cell? ⟨w.heap.size,0,none⟩=some (.bool na):=by simp[f,go_sem]
  have g1:w1.cell? ⟨w.heap.size,1,none⟩=some (.slice A n c):=by simp[f,go_sem]
  have g2:w1.cell? ⟨w.heap.size+1,0,none⟩=some (.bool nb):=by simp[f,go_sem]
  have g3:w1.cell? ⟨w.heap.size+1,1,none⟩=some (.slice B m d):=by simp[f,go_sem]
  have g7:Blk w1 (w.heap.size+1+1) 39 #[.bool false,.slice none 0 0]:=by
   refine Zc o ?_;exact Ev
  have g5:=g7.cell 0;have g6:=g7.cell 1;have g8:=g7.frozen 0;have g9:=g7.frozen 1;simp at g5 g6;clear f U;have J:=ha.below ae;have u:=hb.below ae;go_wp2_with fail
  go_region_held3 (λw'=>w'.cell? ⟨w.heap.size,0,none⟩=some (.bool na)/\w'.cell? ⟨w.heap.size,1,none⟩=some (.slice A n c)/\w'.cell? ⟨w.heap.size+1,0,none⟩=some (.bool nb)/\w'.cell? ⟨w.heap.size+1,1,none⟩=some (.slice B m d))
   (((try dsimp only);(repeat' apply Qy);all_goals (first|go_keep|(simp[*,go_sem];done))))
   (first
    | (go_at_call 170;refine(Zoc _ _ _ _ _ _ _ _ _ (by exact J) (by exact u) HLE.out HVL.out Gk).mono ?_;rintro e w2 ⟨A2,n2,c2,l2,rfl,C,cE,aa⟩;have k0:=Za aa g0;have k1:=Za aa g1;have j0:=Za aa g2;have k2:=Za aa g3;have k3:=Za aa g5;have k4:=Za aa g6;have k5:=Zl aa g5 g8;have k6:=Zl aa g6 g9;have k7:=Zc aa g7)
    | (go_at_call 74;refine(Zbv _ _ _ _ _ _ (by exact C) (by have h1:=C.len;rw[cE]at h1;have h2:=HLL.out;omega)).mono ?_;rintro e w3 ⟨ah,aD,A3,n3,c3,aL,rfl,bW⟩;have m0:=Za ah k0;have m1:=Za ah k1;have i0:=Za ah j0;have m2:=Za ah k2;have m3:=Za ah k3;have m4:=Za ah k4;have m5:=Zl ah k3 k5;have m6:=Zl ah k4 k6;have m7:=Zc ah k7))
  exact CT
 have I:va<=vb:=by
   exact Cv
 have HLE:Hid (n<=m):=by have:=Z5 I;rw[ha.len,hb.len]at this;exact this
 have HVL:Hid (val (digits va)<=val (digits vb)):=by rw[Zi,Zi];exact I
 have HZZ:∀ l:List Nat,l=digits (val (digits vb)-val (digits va))->sg nb (val l)=sg na va+sg nb vb:=λl h=>by rw[Int.add_comm];exact Zfm (Ne.symm hs) (by rw[h,Zi,Zi,Zi];omega)
 have HLL:Hid ((digits (val (digits vb)-val (digits va))).length<=4096):=by
  have:=Z5 (show val (digits vb)-val (digits va)<=vb by rw[Zi,Zi];omega);rw[HLB.out]at this;exact QZ this hm
 clear T I hs;go_in;go_wp2_with fail;refine(Zcl _ _ _ _ _ _ _ _ _ (ha.below y.out) (hb.below y.out)).mono ?_;rintro e w1 ⟨O,o⟩;rw[HC.out]at O;subst O;obtain⟨f,U⟩:=Zc0 o;have V:w.heap.size+1+1<w1.heap.size:=by have:=o.size;simp at this;omega
 have ae:Below w.heap.size w w1:=y.out.trans (o.mono Gg);have g0:w1.cell? ⟨w.heap.size,0,none⟩=some (.bool na):=by simp[f,go_sem]
 have g1:w1.cell? ⟨w.heap.size,1,none⟩=some (.slice A n c):=by simp[f,go_sem]
 have g2:w1.cell? ⟨w.heap.size+1,0,none⟩=some (.bool nb):=by simp[f,go_sem]
 have g3:w1.cell? ⟨w.heap.size+1,1,none⟩=some (.slice B m d):=by simp[f,go_sem]
 have g7:Blk w1 (w.heap.size+1+1) 39 #[.bool false,.slice none 0 0]:=by
  refine Zc o ?_;exact Ev
 have g5:=g7.cell 0;have g6:=g7.cell 1;have g8:=g7.frozen 0;have g9:=g7.frozen 1;simp at g5 g6;clear f U;have J:=ha.below ae;have u:=hb.below ae;go_wp2_with fail
 go_region_held3 (λw'=>w'.cell? ⟨w.heap.size,0,none⟩=some (.bool na)/\w'.cell? ⟨w.heap.size,1,none⟩=some (.slice A n c)/\w'.cell? ⟨w.heap.size+1,0,none⟩=some (.bool nb)/\w'.cell? ⟨w.heap.size+1,1,none⟩=some (.slice B m d))
  (((try dsimp only);(repeat' apply Qy);all_goals (first|go_keep|(simp[*,go_sem];done))))
  (first
   | (go_at_call 170;refine(Zoc _ _ _ _ _ _ _ _ _ (by exact u) (by exact J) HLE.out HVL.out Gk).mono ?_;rintro e w2 ⟨A2,n2,c2,l2,rfl,C,cE,aa⟩;have k0:=Za aa g0;have k1:=Za aa g1;have j0:=Za aa g2;have k2:=Za aa g3;have k3:=Za aa g5;have k4:=Za aa g6;have k5:=Zl aa g5 g8;have k6:=Zl aa g6 g9;have k7:=Zc aa g7)
   | (go_at_call 74;refine(Zbv _ _ _ _ _ _ (by exact C) (by have h1:=C.len;rw[cE]at h1;have h2:=HLL.out;omega)).mono ?_;rintro e w3 ⟨ah,aD,A3,n3,c3,aL,rfl,bW⟩;have m0:=Za ah k0;have m1:=Za ah k1;have i0:=Za ah j0;have m2:=Za ah k2;have m3:=Za ah k3;have m4:=Za ah k4;have m5:=Zl ah k3 k5;have m6:=Zl ah k4 k6;have m7:=Zc ah k7))
 exact CT
def NumW(w:World)(z:Int)(e:Ending)(w':World):Prop:=
 Below w.heap.size w w'/\∃ neg A n c,e=.returned (.agg #[.bool neg,.slice A n c])/\Wd w' neg A n c z
theorem Lim.pair(w:World)(t:TypeId){v:Nat}(hv:v<18446744073709551616){X Y:Int}(hX:X=(v%4294967296:Nat))(hY:Y=(v/4294967296:Nat)) :
    Lim (w.alloc (.cells #[.int .u32 X,.int .u32 Y] t)) (some ⟨w.heap.size,0,none⟩) 2 2 [v%4294967296,v/4294967296]:=by
 subst hX hY;exact Lim.of_blk (l:=[v%4294967296,v/4294967296]) (Blk.new w t _) (Lt32.cons (QD _ Gj) (Lt32.cons Gk Lt32.nil)) (by unfold maxLen;simp)
theorem Lim.pair2(w:World)(o:Obj)(t:TypeId){v:Nat}(hv:v<18446744073709551616){X Y:Int}(hX:X=(v%4294967296:Nat))(hY:Y=(v/4294967296:Nat)) :
    Lim ((w.alloc o).alloc (.cells #[.int .u32 X,.int .u32 Y] t)) (some ⟨w.heap.size+1,0,none⟩) 2 2 [v%4294967296,v/4294967296]:=by
 have:=Lim.pair (w.alloc o) t hv hX hY;rw[QG]at this;exact this
theorem Zib{z:Int}(h:z.natAbs<=9223372036854775808):z.natAbs<pw 4096:=
 Nat.lt_of_lt_of_le (QW h (show 9223372036854775808<pw 2 by decide)) (Zb6 Gk)
theorem ResP.small{w:World}{z:Int}{neg:Bool}{A:Option Addr}{n c:Nat}{code:Int}(h:ResP w z neg A n c code)(hs:z.natAbs<pw 4096):Wd w neg A n c z:=by
 rcases h with ⟨_,_,h⟩|⟨h,_⟩;exact h;omega
theorem Wd.alloc{w:World}{neg:Bool}{A:Option Addr}{n c:Nat}{z:Int}(h:Wd w neg A n c z)(o:Obj):Wd (w.alloc o) neg A n c z:=⟨h.1,h.2.1,h.2.2.alloc o⟩
theorem NumW.box{w w3:World}{z:Int}{neg:Bool}{A:Option Addr}{n c:Nat}{g:Nat}{t:TypeId}{b0:Bool}{A0:Option Addr}{n0 c0:Nat}(hP:Wd w3 neg A n c z)(hB:Below w.heap.size w w3)(hg:w.heap.size<=g)(hb:Blk w3 g t #[.bool b0,.slice A0 n0 c0]) :
    NumW w z (.returned (.agg #[.bool neg,.slice A n c])) ((w3.setCell ⟨g,0,none⟩ (.bool neg)).setCell ⟨g,1,none⟩ (.slice A n c)):=by
 have e:Blk (w3.setCell ⟨g,0,none⟩ (.bool neg)) g t #[.bool neg,.slice A0 n0 c0]:=hb.set_ 0 (.bool neg);exact⟨(hB.setCell (p:=⟨g,0,none⟩) hg _).setCell (p:=⟨g,1,none⟩) hg _,_,_,_,_,rfl,hP.1,hP.2.1,(hP.2.2.set_box hb (NoLimb.box _ _ _ _) _ _).set_box e (NoLimb.box _ _ _ _) _ _⟩
theorem NumW.alloc{w w':World}{z:Int}{e:Ending}(h:NumW w z e w')(o:Obj):NumW w z e (w'.alloc o):=by
 obtain⟨hb,neg,A,n,c,he,hw⟩:=h;exact⟨hb.alloc hb.size _,neg,A,n,c,he,hw.alloc o⟩
theorem ER{G:Prop}(h:G:=by
 have ae:Below w.heap.size w w1:=(aq.alloc aq.size _).trans (ab.mono Gg);have m7:=Zc ab (Blk.alloc (Blk.new w 39 #[.bool false,.slice none 0 0]) _);have m3:=m7.cell 0;have m4:=m7.cell 1;have m5:=m7.frozen 0;have m6:=m7.frozen 1;simp at m3 m4;have bz:=m7.lt;have HM:=Zb m7;clear m7 hz bQ;go_wp2_with fail;refine bodyPost_ret (v:=.agg #[.bool aT,.slice A1 n1 c1]) (by simp[results,Tryz.results114,go_sem,m3,m4,bz]) rfl ?_;exact(NumW.box eJ ae (Nat.le_refl _) HM.out).alloc _):G:=h
theorem Zsh(v:Nat)(w:World)(hv:v<9223372036854775808) :
    Calls Tryz.prog 114 #[.int .i64 v] w (NumW w (v)):=by
 have h:decide ((v:Int)<0)=false:=Gh
 go_in;go_wp2_with fail;have aq:Below w.heap.size w (w.alloc (.cells #[.bool false,.slice none 0 0] 39)):=(Qd w.heap.size w).alloc (Qa _) _
 refine(Zb8 _ _ _ _ [v%4294967296,v/4294967296] _ (by
  refine Lim.pair2 w _ _ Gk ?_ ?_ <;> first|rfl|omega|(simp only[Qu];omega))).mono ?_
 rintro e w1 ⟨ab,aT,A1,n1,c1,f,rfl,bQ⟩;have hz:sg false (val [v%4294967296,v/4294967296])=v:=by simp[sg,val];omega
 rw[hz]at bQ;have eJ:Wd w1 aT A1 n1 c1 (v):=bQ.small (Zib Gk);exact ER
theorem Zzo(v:Nat)(w:World)(hv0:0<v)(hv:v<=9223372036854775808) :
    Calls Tryz.prog 114 #[.int .i64 (-(v:Int))] w (NumW w (-(v:Int))):=by
 have h:decide (-(v:Int)<0)=true:=by simp;omega
 go_in;go_wp2_with fail;have aq:Below w.heap.size w (w.alloc (.cells #[.bool false,.slice none 0 0] 39)):=(Qd w.heap.size w).alloc (Qa _) _
 refine(Zb8 _ _ _ _ [v%4294967296,v/4294967296] _ (by
  refine Lim.pair2 w _ _ Gk ?_ ?_ <;> first|rfl|omega|(simp only[Qu];omega))).mono ?_
 rintro e w1 ⟨ab,aT,A1,n1,c1,f,rfl,bQ⟩;have hz:sg true (val [v%4294967296,v/4294967296])=-(v:Int):=by simp[sg,val];omega
 rw[hz]at bQ;have eJ:Wd w1 aT A1 n1 c1 (-(v:Int)):=bQ.small (Zib Gk);exact ER
theorem EP{G:Prop}(h:G:=by
 have ae:Below w.heap.size w w1:=(aq.alloc aq.size _).trans (ab.mono Gg);have m7:=Zc ab (Blk.alloc (Blk.new w 39 #[.bool false,.slice none 0 0]) _);have m3:=m7.cell 0;have m4:=m7.cell 1;have m5:=m7.frozen 0;have m6:=m7.frozen 1;simp at m3 m4;have bz:=m7.lt;have HM:=Zb m7;clear m7 hz bQ;go_wp2_with fail;refine bodyPost_ret (v:=.agg #[.bool aT,.slice A1 n1 c1]) (by simp[results,Tryz.results32,go_sem,m3,m4,bz]) rfl ?_;exact(NumW.box eJ ae (Nat.le_refl _) HM.out).alloc _):G:=h
theorem Zo3(v:Nat)(w:World)(hv:v<9223372036854775808) :
    Calls Tryz.prog 32 #[.int .i64 v] w (NumW w (v)):=by
 have h:decide ((v:Int)<0)=false:=Gh
 go_in;go_wp2_with fail;have aq:Below w.heap.size w (w.alloc (.cells #[.bool false,.slice none 0 0] 39)):=(Qd w.heap.size w).alloc (Qa _) _
 refine(Zbv _ _ _ _ [v%4294967296,v/4294967296] _ (by
  refine Lim.pair2 w _ _ Gk ?_ ?_ <;> first|rfl|omega|(simp only[Qu];omega)) Gk).mono ?_
 rintro e w1 ⟨ab,aT,A1,n1,c1,f,rfl,bQ⟩;have hz:sg false (val [v%4294967296,v/4294967296])=v:=by simp[sg,val];omega
 rw[hz]at bQ;have eJ:Wd w1 aT A1 n1 c1 (v):=bQ.small (Zib Gk);exact EP
theorem Zyf(v:Nat)(w:World)(hv0:0<v)(hv:v<=9223372036854775808) :
    Calls Tryz.prog 32 #[.int .i64 (-(v:Int))] w (NumW w (-(v:Int))):=by
 have h:decide (-(v:Int)<0)=true:=by simp;omega
 go_in;go_wp2_with fail;have aq:Below w.heap.size w (w.alloc (.cells #[.bool false,.slice none 0 0] 39)):=(Qd w.heap.size w).alloc (Qa _) _
 refine(Zbv _ _ _ _ [v%4294967296,v/4294967296] _ (by
  refine Lim.pair2 w _ _ Gk ?_ ?_ <;> first|rfl|omega|(simp only[Qu];omega)) Gk).mono ?_
 rintro e w1 ⟨ab,aT,A1,n1,c1,f,rfl,bQ⟩;have hz:sg true (val [v%4294967296,v/4294967296])=-(v:Int):=by simp[sg,val];omega
 rw[hz]at bQ;have eJ:Wd w1 aT A1 n1 c1 (-(v:Int)):=bQ.small (Zib Gk);exact EP
theorem Zbz(z:Int)(w:World)(h1:-9223372036854775808<=z)(h2:z<=9223372036854775807):Calls Tryz.prog 114 #[.int .i64 z] w (NumW w z):=by
 rcases Int.le_total 0 z with h|h
 ·obtain⟨v,rfl⟩:=Qp h
  exact Zsh v w Gk
 rcases Qp (show 0 <= -z by omega)with ⟨v,hv⟩;obtain rfl:z=-(v:Int):=Gk;rcases Qj v with rfl|h0;exact Zsh 0 w Gk;exact Zzo v w h0 Gk
theorem Zdi(z:Int)(w:World)(h1:-9223372036854775808<=z)(h2:z<=9223372036854775807):Calls Tryz.prog 32 #[.int .i64 z] w (NumW w z):=by
 rcases Int.le_total 0 z with h|h
 ·obtain⟨v,rfl⟩:=Qp h
  exact Zo3 v w Gk
 rcases Qp (show 0 <= -z by omega)with ⟨v,hv⟩;obtain rfl:z=-(v:Int):=Gk;rcases Qj v with rfl|h0;exact Zo3 0 w Gk;exact Zyf v w h0 Gk
theorem Zc5(es fs:List WE):Zai (es++fs)=Zai es++Zai fs:=by
 induction es with
 | nil=>rfl
 | cons e l ih=>simp only[Qt,Zai,ih]
theorem Zuy(fs:List WE):∀ u ∈ Zai fs,u.oneCell'=true:=by
 induction fs with
 | nil=>intro u h;simp[Zai]at h
 | cons e l ih =>
  intro u h;simp only[Zai,List.mem_cons]at h;rcases h with rfl|rfl|h;rfl;rfl;exact ih u h
theorem Ziu(k:Nat):(Yg #[.bool false,.slice none 0 0] k).toList=Zai (Qb k Zcv):=by
 rw[Zlm];unfold Yg madeCells;apply Yd;intro i;by_cases h:i<k*2;simp[h];simp[h]
def RowW(t:TypeId)(w:World)(base:Nat)(v:Value)(es:List WE):Prop:=
 (v=.slice none 0 0/\es=[]) \/ ∃ g sp,v=.slice (some ⟨g,0,none⟩) es.length (es.length+sp)/\base<=g/\es.length+sp<=maxLen/\Blk w g t (Zbt (es++Qb sp Zcv))
section
variable{t:TypeId}{w w':World}{base:Nat}{v:Value}{es:List WE}
theorem RowW.own(h:RowW t w base v es):w.ownsRow base t 2 v es.length (Zai es):=by
 refine⟨Zba es,?_⟩;rcases h with ⟨h1,rfl⟩|⟨g,sp,h1,h2,h3,h4⟩;exact .inl ⟨h1,rfl⟩;refine .inr ⟨g,_,_,h1,h2,h4,Yi _ _,h3,?_,?_⟩;simp[Zbt,Zba];simp only[Zbt];rw[Zc5,<- Zba es];exact List.take_left
theorem RowW.row_ge(h:RowW t w base v es):∀ k,v.ownBlock=some k->base<=k:=λk hk=>(h.own.lt k hk).1
theorem FJ{G:Prop}(h:G:=by
 rcases h with h|⟨g,sp,h1,h2,h3,h4⟩;exact .inl h;exact .inr ⟨g,sp,h1,h2,h3,Zc hb h4⟩):G:=h
theorem RowW.kept(h:RowW t w base v es)(hb:Below w.heap.size w w'):RowW t w' base v es:=by
 exact FJ
theorem RowW.keep(h:RowW t w base v es)(hg:w.grownBy w' v.ownBlock){A:Option Addr}{n c:Nat}{l:List Nat}(hL:Lim w A n c l):Lim w' A n c l:=by
 refine⟨hL.1,hL.2.1,hL.2.2.1,hL.2.2.2.1,λhn=>?_⟩;obtain⟨b,o,e,hc⟩:=hL.2.2.2.2 hn;refine⟨b,o,e,λk hk=>?_⟩;rw[<- hc k hk];refine QR (hg.block b (Zo (hc k hk)) (λe'=>?_));rcases h with ⟨rfl,_⟩|⟨g,sp,rfl,_,_,h4⟩;cases e';have f:b=g:=by simpa [Value.ownBlock]using e'
 subst f;have h1:=hc k hk;rw[h4.cell]at h1;exact Zdl _ _ _ h1
end
section
variable{P:Program}(w:World)
end
def OwnP(t:TypeId)(w:World)(base:Nat)(v:Value)(xs:List Int):Prop:=∃ es,RowW t w base v es/\(∀ e ∈ es,Lim w e.A e.n e.c e.l/\e.ok=true)/\es.map WE.num=xs
section
variable{t:TypeId}{w w':World}{base:Nat}{v:Value}{xs:List Int}
theorem OwnP.nil(t:TypeId)(w:World)(base:Nat):OwnP t w base (.slice none 0 0) []:=⟨[],.inl ⟨rfl,rfl⟩,λe h=>by simp at h,rfl⟩
theorem OwnP.kept(h:OwnP t w base v xs)(hb:Below w.heap.size w w'):OwnP t w' base v xs:=by
 obtain⟨es,h1,h2,h3⟩:=h;exact⟨es,h1.kept hb,λe he=>⟨(h2 e he).1.below hb,(h2 e he).2⟩,h3⟩
theorem OwnP.row_ge(h:OwnP t w base v xs):∀ k,v.ownBlock=some k->base<=k:=by obtain⟨es,h1,_⟩:=h;exact h1.row_ge
theorem OwnP.poly(h:OwnP t w base v xs):∃ A c,v=.slice A xs.length c/\PolyL w A xs.length c xs:=by
 obtain⟨es,h1,h2,rfl⟩:=h;rcases h1 with ⟨rfl,rfl⟩|⟨g,sp,rfl,h4,h5,h6⟩;exact⟨none,0,rfl,[],⟨rfl,Qa _,Qe _,λh=>absurd h Gh,λe h=>by simp at h⟩,rfl,λe h=>by simp at h⟩;rw[List.length_map];refine⟨_,es.length+sp,rfl,es,⟨rfl,Yi _ _,h5,λ_=>⟨g,0,rfl,λk e he=>?_⟩,λe he=>(h2 e he).1⟩,rfl,λe he=>(h2 e he).2⟩;have hk:k<es.length:=(List.getElem?_eq_some_iff.1 he).1;have hc:=Zjq (es:=es++Qb sp Zcv) (i:=k) (e:=e) (by rw[List.getElem?_append_left hk];exact he);rw[QF,h6.cell,h6.cell];exact hc
theorem Zgm(b:Bool)(A:Option Addr)(n c:Nat):NoLimb #[.bool b,.slice A n c]:=λi x=>by
 match i with
 | 0=>simp
 | 1=>simp
 | i+2=>simp
theorem Wd.of_keep{neg:Bool}{A:Option Addr}{n c:Nat}{z:Int}(hk:∀ (A:Option Addr) (n c:Nat) (l:List Nat),Lim w A n c l->Lim w' A n c l)(h:Wd w neg A n c z):Wd w' neg A n c z:=⟨h.1,h.2.1,hk _ _ _ _ h.2.2⟩
end
theorem OwnP.snoc{t:TypeId}{w:World}{base:Nat}{v:Value}{xs:List Int}{neg:Bool}{A:Option Addr}{n c:Nat}{z:Int}{W:World}(h:OwnP t w base v (xs ++ [⟨neg,A,n,c,digits z.natAbs⟩].map WE.num))(hW:Wd W neg A n c z):OwnP t w base v (xs ++ [z]):=by
 rw[List.map_cons,List.map_nil,show WE.num ⟨neg,A,n,c,digits z.natAbs⟩=z from hW.sgEq]at h;exact h
section
variable{P:Program}(w:World)
end
theorem Zpq{U V P uh v1:Nat}(hv:0<v1)(hV:v1*P<=V)(hU:U<(uh+1)*P):U/V<=uh/v1:=by
 rw[Nat.le_div_iff_mul_le hv];have h1:U/V*V<=U:=QT U V;have h2:U/V*(v1*P)<=U/V*V:=Qx _ hV;have h3:U/V*v1*P<(uh+1)*P:=by rw[QA];omega
 have:=Nat.lt_of_mul_lt_mul_right h3;omega
theorem Zp6{U V P uh v1 q:Nat}(hV:v1*P<=V)(hU:U<(uh+1)*P)(hq:uh<q*v1):U/V<q:=by
 rcases Qf (U/V) q with h|h;exact h;exfalso;have h1:U/V*V<=U:=QT U V;have h2:q*(v1*P)<=U/V*V:=QN h hV;have h3:(uh+1)*P<=q*v1*P:=Nat.mul_le_mul_right _ hq;rw[QA]at h3;omega
theorem Zj7{u u0 v:List Nat}{i q carry borrow c lo d b:Nat}(hi:i<u.length)
    (hI:val (u.take i)+q*val (v.take i)=val (u0.take i)+pw i*(carry+borrow)) (ht:lo+4294967296*c=carry+q*v[i]?.getD 0) (hd:d+lo+borrow=u0[i]?.getD 0+4294967296*b) :
    val ((u.set i d).take (i+1))+q*val (v.take (i+1))=val (u0.take (i+1))+pw (i+1)*(c+b):=by
 rw[Zac,Zac v,Zac u0,List.take_set_of_le (Qa i),QL hi,Za7,Qm q];simp only[Option.getD_some];generalize v[i]?.getD 0=x at *;generalize u0[i]?.getD 0=y at *;generalize val (u.take i)=a at *;generalize val (v.take i)=e at *;generalize val (u0.take i)=f at *;have e1:q*(pw i*x)=pw i*(q*x):=by rw[Nat.mul_left_comm]
 rw[e1];have e2:pw i*(q*x)+pw i*carry=pw i*lo+pw i*(4294967296*c):=by rw[<- Qm,<- Qm,ht,Nat.add_comm]
 have e3:pw i*d+pw i*lo+pw i*borrow=pw i*y+pw i*(4294967296*b):=by rw[<- Qm,<- Qm,<- Qm,hd]
 have e4:4294967296*pw i*(c+b)=pw i*(4294967296*c)+pw i*(4294967296*b):=by rw[Qm,QU 4294967296 (pw i),QA,QA]
 rw[Qm]at hI;rw[e4];omega
def MutL(w:World)(g off:Nat)(l:List Nat):Prop:=∀ i,i<l.length->w.cell? ⟨g,off+i,none⟩=some (limb (l[i]?.getD 0))/\w.frozen? ⟨g,off+i,none⟩=false
theorem MutL.set_{w:World}{g off:Nat}{l:List Nat}(h:MutL w g off l){i:Nat}(hi:i<l.length)(x:Nat):MutL (w.setCell ⟨g,off+i,none⟩ (limb x)) g off (l.set i x):=λj hj=>by
 rw[Qg]at hj;refine⟨?_,by rw[World.frozen?_setCell];exact(h j hj).2⟩;by_cases hji:j=i
 ·subst hji
  rw[Zlk _ hi];exact World.cell?_setCell_same _ _ _ (h j hj).1
 rw[getD_set_ne _ (λe=>hji e.symm),Ql _ _ _ _ (by intro e;injection e with e1 e2;omega)];exact(h j hj).1
theorem Zh4{w w':World}{g o:Nat}{u:Value}(h:w.grownBy w' (some g)):w.grownBy (w'.setCell ⟨g,o,none⟩ u) (some g):=
 ⟨h.os,h.tape,h.output,by simpa using h.size,λk hk hne=>(Below.heap_setCell w' ⟨g,o,none⟩ u k (λe=>hne (by rw[e]))).trans (h.block k hk hne)⟩
def SubP(w:World)(g off n q:Nat)(u v:List Nat)(i cy b:Nat)(wr:World):Prop:=
 ∃ l,MutL wr g off l/\l.length=n+1/\Lt32 l/\(∀ j,i<=j->l[j]?.getD 0=u[j]?.getD 0)/\val (l.take i)+q*val (v.take i)=val (u.take i)+pw i*(cy+b)/\w.grownBy wr (some g)
theorem Zs6{c x y:Nat}(hc:c<4294967296)(hx:x<4294967296)(hy:y<4294967296) :
    IntKind.u64.wrap ((c:Int)+IntKind.u64.wrap ((x:Int)*y))=((c+x*y:Nat):Int):=by
 exact FK
theorem Zp2(g off n c d q:Nat)(B:Option Addr)(u v:List Nat)(w:World)(hu:MutL w g off u)(J:u.length=n+1)(hut:Lt32 u)(hnc:n+1<=c)(hcm:c<=maxLen)(hn9:n<=1000000000)
    (hv:Lim w B n d v) (hB:∀ b o,B=some ⟨b,o,none⟩->b≠g) (hq:q<4294967296) :
    Calls Tryz.prog 201 #[.slice (some ⟨g,off,none⟩) (n+1) c,.slice B n d,.int .u32 q] w λe w'=>∃ b l,b<=1/\e=.returned (.bool (decide (b=0)))/\MutL w' g off l/\l.length=n+1/\Lt32 l/\val l+q*val v=val u+pw (n+1)*b/\w.grownBy w' (some g):=by
 unfold maxLen at hcm;have a8:=hv.2.1;have a1:=hv.2.2.1;unfold maxLen at a1;have V:=Zb hv.len;replace J:=Zb J;go_in
 go_wp2
 go_loopw [14,7,8] (λiv cv bv wr=>∃ i cy b:Nat,i<=n/\iv=.int .i64 i/\cy<4294967296/\cv=.int .u64 cy/\b<=1/\bv=limb b/\SubP w g off n q u v i cy b wr) (λiv _ _ _=>n-(intOf iv).toNat)
 case atStart=>exact⟨0,0,0,Qe _,rfl,by omega,rfl,Qe _,rfl,u,hu,J.out,hut,λ_ _=>rfl,by simp[val],World.grownBy.refl w _⟩
 case round =>
  obtain⟨i,cy,b,a7,rfl,Y,rfl,a0,rfl,l,hl,C,O,y,hI,hg⟩:=hrel;replace C:=Zb C;replace y:=Zb y;replace hI:=Zb hI;by_cases hi:i<n
  ·obtain⟨bb,ob,rfl,U⟩:=hv.at_ hi
   have a3:=hB bb ob rfl;have a5:=(QR (a:=⟨bb,ob+i,none⟩) (hg.block bb (Zo U) (λe=>a3 (by injection e)))).trans U;have hx:=hv.lt.get i;have hy:=hut.get i;obtain⟨T,a2⟩:=hl i (by rw[C.out];omega);rw[y.out i (Qa _)]at T;have f:i<l.length:=by rw[C.out];omega
   go_wp2_with fail;rw[Zs6 Y hq hx,Zmt]
   have a4:cy+q*v[i]?.getD 0<18446744073709551616:=by
    have h:q*v[i]?.getD 0<=4294967295*4294967295:=QN Gk Gk;omega
   obtain⟨t,ht⟩:=Gz (cy+q*v[i]?.getD 0);rw[ht]at a4 ⊢;replace ht:=Zb ht;refine(Zij _ (t%4294967296) _ _ hy (QD _ Gj) a0).mono ?_;rintro e w' ⟨dd,kk,rfl,hd,hk,he,rfl⟩;replace he:=Zb he;go_wp2_with fail
   go_roundw
   case rel =>
    rw[Zn6];refine⟨i+1,_,kk,by omega,by go_num,by omega,rfl,hk,rfl,l.set i dd,hl.set_ f dd,by rw[Qg];exact C.out,O.set i hd,λj hj=>?_,?_,Zh4 hg⟩;rw[getD_set_ne _ Gk];exact y.out j Gk;exact Zj7 f hI.out (lo:=t%4294967296) (by rw[ht.out];omega) (by have:=he.out;omega)
   case measure=>simp[intOf];omega
  obtain rfl:i=n:=Gk;have hy:=hut.get i;obtain⟨T,a2⟩:=hl i (by rw[C.out];omega);rw[y.out i (Qa _)]at T;have f:i<l.length:=by rw[C.out];omega
  have a6:((cy:Int))%4294967296=(cy:Int):=Gk;go_wp2_with fail;refine(Zij _ cy _ _ hy Y a0).mono ?_;rintro e w' ⟨dd,kk,rfl,hd,hk,he,rfl⟩
  have hfin:Hid (val (l.set i dd)+q*val v=val u+pw (i+1)*kk):=by
   have h1:=Zj7 (v:=v) (q:=q) (lo:=cy) (c:=0) f hI.out (by rw[getD_none (by rw[V.out];exact Qa _)];omega) he;rw[Zad (by rw[Qg,C.out];exact Qa _),Zad (by rw[V.out];omega),Zad (by rw[J.out];exact Qa _),QF]at h1;exact h1
  have hM:=hl.set_ f dd;have hL:=O.set i hd;have hG:=Zh4 (o:=off+i) (u:=limb dd) hg;have I:Hid ((l.set i dd).length=i+1):=by unfold Hid;rw[Qg];exact C.out
  replace he:=Zb he;clear hl O;rcases Qj kk with rfl|h0
  ·go_wp2_with fail
   go_returns;exact⟨0,_,by omega,rfl,hM,I.out,hL,hfin.out,hG⟩
  obtain rfl:kk=1:=Gk;go_wp2_with fail;go_returns;exact⟨1,_,by omega,rfl,hM,I.out,hL,hfin.out,hG⟩
theorem Gs {w w' w'':World}(h:Below w.heap.size w w')(k:Below w'.heap.size w' w''):Below w.heap.size w w'':=h.trans (k.mono h.size)
theorem Gn {w w' w'':World}(h:Hid (Below w.heap.size w w'))(k:Below w'.heap.size w' w''):Hid (Below w.heap.size w w''):=Zb (h.out.trans (k.mono h.out.size))
theorem Gl {w Y:World}{o:Obj}(h:w.alloc o=Y):Below w.heap.size w Y:=h▸(Below.refl _ _).alloc (Nat.le_refl _) _
theorem Gm {w w':World}{g:Nat}{t:TypeId}{cs:Array Value}(b:Below w.heap.size w w')(h:Hid (Blk w g t cs)):Hid (Blk w' g t cs):=Zc b h
