/- Limbs of 32 bits, the lowest one first: what a list of -/
import Derived.Test.YtdkhcplnoomcbaaGreatDoorProg
import Derived.WalkKit
import Derived.WalkSpells
import Derived.WalkLawsBesides
import Derived.Lib.Hide
import Derived.Laws.OwnMore
import Derived.Deep.AppendLies
import Derived.Deep.Draws
import Derived.Laws.Rows
import Derived.Deep.OwnRows
import Derived.OwnWalk
import Derived.Handy
import Derived.IntWalk
import Derived.Test.YtdkhcplnoomcbaaGreatDoorRows
import Derived.Maps.AppendAt
import Derived.RegionTactic
import Derived.BigQuiet
import Derived.Deep.QuietTactic
import Derived.Laws.IdiomCopy
import Derived.RangeFuncBox
import Derived.RangeFuncLeaves
import Derived.RangeFuncNested
import Derived.RangeFuncCalls
import Derived.Shelf.Abstract
import Derived.OwnWalkIn
import Derived.TacticsInMore
import Derived.LoopNIn
import Derived.LoopIn
import Derived.Deep.RegionHeld3
import Derived.TacticsIn
import Derived.Shelf.RegionOpen
set_option maxRecDepth 100000
set_option maxHeartbeats 2000000
set_option linter.unusedSimpArgs false
set_option linter.unusedVariables false
namespace Go.Proofs.YtdkhcplnoomcbaaGreatDoor
open Go.RowKit
open List renaming getElem?_eq_getElem→Qa,replicate→Qc,drop_of_length_le→Qe,length_set→Qg,eq_nil_of_length_eq_zero→Qi,length_take→Qk,getElem?_eq_none→Qn,length_cons→Qq,length_map→Qt,nil_append→Qw,length_nil→Qx,cons_append→QA,append_toArray→QE,getLast?_eq_getElem?→QF,getElem?_take→QG,drop_zero→QI,size_toArray→QJ,push_toArray→QK,take_of_length_le→QL,all_eq_true→QO,getElem?_drop→QT,exists_cons_of_ne_nil→QV,getElem?_append_right→QX,getElem?_map→Ya,append_assoc→Yb,drop_eq_getElem_cons→Yd,getElem?_append_left→Ye,getElem?_cons_succ→Yh,getElem?_set_self→Yj,length_append→Ys,mem_singleton→Yt,getElem_mem→Yx,append_inj'→Yy
open Nat renaming le_refl→Qb,mul_le_mul_left→Qf,eq_zero_or_pos→Qh,div_lt_iff_lt_mul→Qj,lt_or_ge→Ql,mul_add→Qm,zero_le→Qo,mul_comm→Qp,xor_lt_two_pow→Qr,min_eq_left→Qs,zero_add→Qv,two_pow_add_eq_or_of_lt→Qy,pow_le_pow_right→Qz,pow_pos→QD,and_lt_two_pow→QH,mul_assoc→QM,div_add_mod→QR,mul_le_mul→QS,lt_of_lt_of_le→QU,add_mul_mod_self_right→QW,reduceAdd→QY,reduceSub→QZ,mod_lt→Yc,strongRecOn→Yi,div_div_eq_div_mul→Yl,le_div_iff_mul_le→Ym,div_mul_le_self→Yp,add_comm→Yq,le_of_lt→Yr,sub_zero→Yu,mul_one→Yw
open World renaming cell?_setCell_other→Qd,size_alloc→Yg,cell?_of_block→Yo
open Below renaming refl→Qu
open _root_.Array renaming replicate_succ→QB,replicate_zero→QC,getElem?_eq_none→Yk
open Bool renaming and_eq_true→QN,and_eq_false_imp→Yn,not_eq_true'→Yv
open Act renaming put→QP
open Builtin renaming append_→QQ
open IntKind renaming wrap_u64→Yf
theorem Gk{p:Prop}(h:p:=by omega):p:=h
theorem Gj{p:Prop}(h:p:=by kernel_rfl):p:=h
theorem Gi{p:Prop}(h:p:=by decide):p:=h
theorem Gh{p:Prop}(h:p:=by simp):p:=h
theorem Gg{p:Prop}(h:p:=by simp;omega):p:=h
theorem Gf{p:Prop}(h:p:=by simp <;> omega):p:=h
theorem Ge{p:Prop}(h:p:=by have:=hB.size;simp;omega):p:=h
theorem Gd{p:Prop}(h:p:=by decide +kernel):p:=h
theorem Gc{p:Prop}(h:p:=by rfl):p:=h
theorem Gz {α:Sort _}(a:α):∃ x,a=x:=⟨a,rfl⟩
theorem Gy {α:Sort _}(a:α):∃ x,x=a:=⟨a,rfl⟩
theorem Gx {c:Prop}{h:Decidable c}(hc:c){α:Sort _}{t e:α}:ite c t e=t:=if_pos hc
theorem Gw {c:Prop}{h:Decidable c}(hc:¬c){α:Sort _}{t e:α}:ite c t e=e:=if_neg hc
theorem Gv {p:Prop}[h:Decidable p](hp:p):decide p=true:=decide_eq_true hp
theorem Gu {p:Prop}[h:Decidable p](hp:¬p):decide p=false:=decide_eq_false hp
theorem Gt:Tryz.prog.follows .mixedOrders=true:=by kernel_rfl
def val:List Nat->Nat
 | []=>0
 | x::l=>x+4294967296*val l
def Lt32(l:List Nat):Prop:=∀ x ∈ l,x<4294967296
def digits(n:Nat):List Nat:=if h:n=0 then []else n%4294967296::digits (n/4294967296)
termination_by n
decreasing_by omega
def canon:List Nat->List Nat
 | []=>[]
 | x::l=>match canon l with
  | []=>if x=0 then []else [x]
  | y::m=>x::y::m
def pw(k:Nat):Nat:=4294967296^k
theorem Zd6:pw 0=1:=rfl
theorem Zbh(k:Nat):pw (k+1)=4294967296*pw k:=by unfold pw;rw[Nat.pow_succ,Qp]
theorem Zja(a b:Nat):pw (a+b)=pw a*pw b:=by unfold pw;rw[Nat.pow_add]
theorem Zdt(k:Nat):0<pw k:=QD Gi
theorem Zbm{a b:Nat}(h:a<=b):pw a<=pw b:=Qz Gi h
theorem Zjr{a b:Nat}(h:a<b):pw a<pw b:=Nat.pow_lt_pow_right Gi h
theorem Lt32.nil:Lt32 []:=λ_ h=>by cases h
theorem Lt32.cons{x:Nat}{l:List Nat}(h:x<4294967296)(hl:Lt32 l):Lt32 (x::l):=λy hy=>by
 rcases List.mem_cons.1 hy with rfl|hy;exact h;exact hl y hy
theorem Lt32.head{x:Nat}{l:List Nat}(h:Lt32 (x::l)):x<4294967296:=h x Gh
theorem Lt32.tail{x:Nat}{l:List Nat}(h:Lt32 (x::l)):Lt32 l:=λy hy=>h y (by simp[hy])
theorem Lt32.get{l:List Nat}(h:Lt32 l)(k:Nat):l[k]?.getD 0<4294967296:=by
 rcases Ql k l.length with hk|hk;rw[Qa hk];exact h _ (Yx hk);rw[Qn hk];decide
theorem Lt32.take{l:List Nat}(h:Lt32 l)(k:Nat):Lt32 (l.take k):=λx hx=>h x (List.mem_of_mem_take hx)
theorem Lt32.drop{l:List Nat}(h:Lt32 l)(k:Nat):Lt32 (l.drop k):=λx hx=>h x (List.mem_of_mem_drop hx)
theorem Lt32.append{l m:List Nat}(h:Lt32 l)(h':Lt32 m):Lt32 (l++m):=λx hx=>by
 rcases List.mem_append.1 hx with hx|hx;exact h x hx;exact h' x hx
theorem Lt32.set{l:List Nat}(h:Lt32 l)(k:Nat){v:Nat}(hv:v<4294967296):Lt32 (l.set k v):=λx hx=>by
 rcases List.mem_or_eq_of_mem_set hx with hx|rfl;exact h x hx;exact hv
theorem Lt32.replicate(n:Nat):Lt32 (Qc n 0):=λx hx=>by
 rw[(List.mem_replicate.1 hx).2];decide
theorem Zh6(a b:List Nat):val (a++b)=val a+pw a.length*val b:=by
 induction a with
 | nil=>simp[val,Zd6]
 | cons x l ih=>simp only[QA,val,ih,Qq,Zbh];grind
theorem Zfn{l:List Nat}(h:Lt32 l):val l<pw l.length:=by
 induction l with
 | nil=>simp[val,Zd6]
 | cons x l ih=>have:=ih h.tail;have:=h.head;simp only[val,Qq,Zbh];omega
theorem Zd8(n:Nat):val (Qc n 0)=0:=by
 induction n with
 | zero=>rfl
 | succ n ih=>simp[List.replicate_succ,val,ih]
theorem Zg3{l:List Nat}{k:Nat}(hk:k<l.length)(v:Nat):val (l.set k v)+pw k*(l[k]?.getD 0)=val l+pw k*v:=by
 induction l generalizing k with
 | nil=>simp at hk
 | cons x l ih =>
  cases k with
  | zero=>simp[val,Zd6];omega
  | succ k=>have:=ih (k:=k) (by simpa using hk);simp only[List.set_cons_succ,val,Yh,Zbh];grind
theorem Z3(l:List Nat)(k:Nat):val (l.take (k+1))=val (l.take k)+pw k*(l[k]?.getD 0):=by
 induction l generalizing k with
 | nil=>simp[val]
 | cons x l ih =>
  cases k with
  | zero=>simp[val,Zd6]
  | succ k=>have:=ih k;simp only[List.take_succ_cons,val,Yh,Zbh];grind
theorem Z8{l:List Nat}{k:Nat}(h:l.length<=k):val (l.take k)=val l:=by rw[QL h]
theorem Zaa(l:List Nat)(k:Nat)(h:k<=l.length):val l=val (l.take k)+pw k*val (l.drop k):=by
 have:=Zh6 (l.take k) (l.drop k);rw[List.take_append_drop,Qk,Qs h]at this;exact this
theorem Zaq:digits 0=[]:=by unfold digits;simp
theorem Zdb{n:Nat}(h:n≠0):digits n=n%4294967296::digits (n/4294967296):=by rw[digits];simp[h]
theorem Zh(n:Nat):val (digits n)=n:=by
 induction n using Yi with
 | _ n ih =>
  by_cases h:n=0;subst h;rw[Zaq];rfl;rw[Zdb h,val,ih _ Gk];omega
theorem Zjp(n:Nat):Lt32 (digits n):=by
 induction n using Yi with
 | _ n ih =>
  by_cases h:n=0;subst h;rw[Zaq];exact Lt32.nil;rw[Zdb h];exact(ih _ Gk).cons Gk
theorem digits_eq_nil{n:Nat}:digits n=[] ↔ n=0:=by
 constructor;intro h;have:=Zh n;rw[h]at this;exact this.symm;rintro rfl;exact Zaq
theorem Zge(n:Nat):(digits n).getLast?≠some 0:=by
 induction n using Yi with
 | _ n ih =>
  by_cases h:n=0;subst h;rw[Zaq];simp;rw[Zdb h];have:=ih (n/4294967296) Gk;by_cases h':n/4294967296=0;rw[h',Zaq];simp;omega;obtain⟨y,m,hm⟩:=QV (λe=>h' (digits_eq_nil.1 e));rw[hm]at this ⊢;simpa using this
theorem Zo(n k:Nat):(digits n).length<=k ↔ n<pw k:=by
 induction k generalizing n with
 | zero =>
  rw[Zd6];constructor;intro h;have:=digits_eq_nil.1 (Qi (Nat.le_zero.1 h));omega;intro h;have:n=0:=Gk;subst this;rw[Zaq];simp
 | succ k ih =>
  by_cases h:n=0;subst h;rw[Zaq];simp[Zdt];rw[Zdb h,Qq,Nat.succ_le_succ_iff,ih,Zbh,Qj Gi,Qp]
theorem Zdm(n:Nat):n<pw (digits n).length:=(Zo n _).1 (Qb _)
theorem Zf9{n k:Nat}(h:k<(digits n).length):pw k<=n:=by
 rcases Ql n (pw k)with h'|h';have:=(Zo n k).2 h';omega;exact h'
theorem Zw{m n:Nat}(h:m<=n):(digits m).length<=(digits n).length:=(Zo _ _).2 (Nat.lt_of_le_of_lt h (Zdm n))
theorem Zqc{l:List Nat}(h:Lt32 l):canon l=digits (val l):=by
 induction l with
 | nil=>rw[val,Zaq];rfl
 | cons x l ih =>
  have hx:=h.head;rw[canon,ih h.tail,val];by_cases h0:val l=0
  ·rw[h0,Zaq]
   by_cases hx0:x=0;simp[hx0,Zaq];simp only[hx0,if_false];rw[Zdb Gk,show (x+4294967296*0)/4294967296=0 by omega,Zaq,show (x+4294967296*0)%4294967296=x by omega]
  rw[Zdb (n:=x+4294967296*val l) Gk,show (x+4294967296*val l)/4294967296=val l by omega,show (x+4294967296*val l)%4294967296=x by omega];obtain⟨y,m,hm⟩:=QV (λe=>h0 (digits_eq_nil.1 e));rw[hm]
theorem Zm2{l:List Nat}(h:Lt32 l)(hl:l.getLast?≠some 0):l=digits (val l):=by
 rw[<- Zqc h]
 induction l with
 | nil=>rfl
 | cons x l ih =>
  cases l with
  | nil=>simp only[canon];simp at hl;simp[hl]
  | cons y m =>
   have:=ih h.tail (by simpa using hl);rw[canon,<- this]
theorem Zfs{l:List Nat}{k:Nat}(hz:∀ j,k<=j->l[j]?.getD 0=0)(hk:k=0 \/ l[k-1]?.getD 0≠0)(hl:Lt32 l):digits (val l)=l.take k:=by
 have hv:val l=val (l.take k):=by
  rcases Ql l.length k with h|h;rw[QL Gk];rw[Zaa l k h]
  have:val (l.drop k)=0:=by
   have:∀ m:List Nat,(∀ j:Nat,m[j]?.getD 0=0)->val m=0:=by
    intro m
    induction m with
    | nil=>intro _;rfl
    | cons x m ih =>
     intro hm;have h0:=hm 0;have:=ih (λj=>by simpa using hm (j+1));simp at h0;simp[val,h0,this]
   exact this _ (λj=>by rw[QT];exact hz _ Gk)
  rw[this];simp
 rw[hv];refine(Zm2 (hl.take k) ?_).symm;rcases hk with rfl|hk;simp;intro h
 have e:k-1<l.length:=by
  rcases Ql (k-1) l.length with h'|h';exact h';rw[Qn h']at hk;simp at hk
 rw[QF,Qk]at h;rw[QG]at h
 split at h
 ·rename_i hlt
  rcases Ql k l.length with h'|h';rw[Qs Gk]at h;rw[h]at hk;simp at hk;have:min k l.length-1=k-1:=Gk;rw[this]at h;rw[h]at hk;simp at hk
 cases h
theorem val_inj{a b:List Nat}(ha:Lt32 a)(hb:Lt32 b)(hl:a.length=b.length)(h:val a=val b):a=b:=by
 induction a generalizing b with
 | nil=>cases b with
  | nil=>rfl
  | cons _ _=>simp at hl
 | cons x a ih=>cases b with
  | nil=>simp at hl
  | cons y b =>
   have hx:=ha.head;have hy:=hb.head;simp only[val]at h;obtain rfl:x=y:=Gk;rw[ih ha.tail hb.tail (by simpa using hl) Gk]
theorem Ztb{a b out:List Nat}{k carry s c':Nat}(hk:k<out.length)(hz:out[k]?.getD 0=0)(hI:val out+pw k*carry=val (a.take k)+val (b.take k))
    (he:s+4294967296*c'=a[k]?.getD 0+b[k]?.getD 0+carry):val (out.set k s)+pw (k+1)*c'=val (a.take (k+1))+val (b.take (k+1)):=by
 have h:=Zg3 hk s;rw[hz]at h;rw[Z3,Z3,Zbh];have:pw k*(s+4294967296*c')=pw k*(a[k]?.getD 0+b[k]?.getD 0+carry):=by rw[he]
 grind
theorem Zq2{a b out:List Nat}{k borrow s c':Nat}(hk:k<out.length)(hz:out[k]?.getD 0=0)(hI:val out+val (b.take k)=val (a.take k)+pw k*borrow)
    (he:s+b[k]?.getD 0+borrow=a[k]?.getD 0+4294967296*c'):val (out.set k s)+val (b.take (k+1))=val (a.take (k+1))+pw (k+1)*c':=by
 have h:=Zg3 hk s;rw[hz]at h;rw[Z3,Z3,Zbh];have:pw k*(s+b[k]?.getD 0+borrow)=pw k*(a[k]?.getD 0+4294967296*c'):=by rw[he]
 grind
theorem getD_set_ne{l:List Nat}{i j:Nat}(v:Nat)(h:i≠j):(l.set i v)[j]?.getD 0=l[j]?.getD 0:=by rw[List.getElem?_set_ne h]
theorem Zjm{l:List Nat}{i:Nat}(v:Nat)(h:i<l.length):(l.set i v)[i]?.getD 0=v:=by rw[Yj h];rfl
theorem getD_none{l:List Nat}{i:Nat}(h:l.length<=i):l[i]?.getD 0=0:=by rw[Qn h];rfl
theorem Zdu(n i:Nat):(Qc n 0)[i]?.getD 0=0:=by
 rw[List.getElem?_replicate];split <;> rfl
theorem Zrt{a b out:List Nat}{i k carry s q:Nat}(hk:i+k<out.length)
    (hI:val out+pw (i+k)*carry=val (a.take i)*val b+pw i*(a[i]?.getD 0*val (b.take k)))
    (he:s+4294967296*q=carry+a[i]?.getD 0*b[k]?.getD 0+out[i+k]?.getD 0) :
    val (out.set (i+k) s)+pw (i+(k+1))*q=val (a.take i)*val b+pw i*(a[i]?.getD 0*val (b.take (k+1))):=by
 have h:=Zg3 hk s;rw[Z3,show i+(k+1)=(i+k)+1 by omega,Zbh];have e1:pw (i+k)*(s+4294967296*q)=pw (i+k)*(carry+a[i]?.getD 0*b[k]?.getD 0+out[i+k]?.getD 0):=by rw[he]
 have e2:=Zja i k;generalize pw (i+k)=P at *;subst e2
 grind
theorem Zuc{a b out:List Nat}{i carry:Nat}(hk:i+b.length<out.length)(hz:out[i+b.length]?.getD 0=0)
    (hI:val out+pw (i+b.length)*carry=val (a.take i)*val b+pw i*(a[i]?.getD 0*val b)) :
    val (out.set (i+b.length) carry)=val (a.take (i+1))*val b:=by
 have h:=Zg3 hk carry;rw[hz]at h;rw[Z3]
 grind
theorem Zwm{x y z c s q:Nat}(hx:x<4294967296)(hy:y<4294967296)(hz:z<4294967296)(hc:c<4294967296)(he:s+4294967296*q=c+x*y+z):q<4294967296:=by
 have:x*y<=4294967295*4294967295:=QS Gk Gk;omega
theorem Zna{U V P uh v1:Nat}(hv:0<v1)(hV:v1*P<=V)(hU:U<(uh+1)*P):U/V<=uh/v1:=by
 rw[Ym hv];have h1:U/V*V<=U:=Yp U V;have h2:U/V*(v1*P)<=U/V*V:=Qf _ hV;have h3:U/V*v1*P<(uh+1)*P:=by rw[QM];omega
 have:=Nat.lt_of_mul_lt_mul_right h3;omega
theorem Znr{U V P uh v1 q:Nat}(hV:v1*P<=V)(hU:U<(uh+1)*P)(hq:uh<q*v1):U/V<q:=by
 rcases Ql (U/V) q with h|h;exact h;exfalso;have h1:U/V*V<=U:=Yp U V;have h2:q*(v1*P)<=U/V*V:=QS h hV;have h3:(uh+1)*P<=q*v1*P:=Nat.mul_le_mul_right _ hq;rw[QM]at h3;omega
theorem Zim{u u0 v:List Nat}{i q carry borrow c lo d b:Nat}(hi:i<u.length)
    (hI:val (u.take i)+q*val (v.take i)=val (u0.take i)+pw i*(carry+borrow)) (ht:lo+4294967296*c=carry+q*v[i]?.getD 0) (hd:d+lo+borrow=u0[i]?.getD 0+4294967296*b) :
    val ((u.set i d).take (i+1))+q*val (v.take (i+1))=val (u0.take (i+1))+pw (i+1)*(c+b):=by
 rw[Z3,Z3 v,Z3 u0,List.take_set_of_le (Qb i),Yj hi,Zbh,Qm q];simp only[Option.getD_some];generalize v[i]?.getD 0=x at *;generalize u0[i]?.getD 0=y at *;generalize val (u.take i)=a at *;generalize val (v.take i)=e at *;generalize val (u0.take i)=f at *;have e1:q*(pw i*x)=pw i*(q*x):=by rw[Nat.mul_left_comm]
 rw[e1];have e2:pw i*(q*x)+pw i*carry=pw i*lo+pw i*(4294967296*c):=by rw[<- Qm,<- Qm,ht,Yq]
 have e3:pw i*d+pw i*lo+pw i*borrow=pw i*y+pw i*(4294967296*b):=by rw[<- Qm,<- Qm,<- Qm,hd]
 have e4:4294967296*pw i*(c+b)=pw i*(4294967296*c)+pw i*(4294967296*b):=by rw[Qm,Qp 4294967296 (pw i),QM,QM]
 rw[Qm]at hI;rw[e4];omega
open Go.RowKit
theorem Zb{p:Prop}(h:p):Hid p:=h
theorem Zog(a:Addr)(n:Nat):(a.add n).block=a.block:=by unfold Addr.add;split <;> rfl
theorem Zf(g o n:Nat):(⟨g,o,none⟩:Addr).add n=⟨g,o+n,none⟩:=by
 unfold Addr.add;split
 ·subst_vars;rfl
 rfl
theorem Zn{w:World}{p:Addr}{v:Value}(h:w.cell? p=some v):p.block<w.heap.size:=by
 unfold World.cell? at h;rcases Ql p.block w.heap.size with f|e;exact f;rw[Yk e]at h;cases h
def Blk(w:World)(g:Nat)(t:TypeId)(cs:Array Value):Prop:=w.heap[g]?=some (.cells cs t (0,0))
section
variable{w w':World}{g:Nat}{t:TypeId}{cs:Array Value}
theorem Blk.lt(h:Blk w g t cs):g<w.heap.size:=by
 rcases Ql g w.heap.size with f|e;exact f;unfold Blk at h;rw[Yk e]at h;cases h
theorem Blk.cell(h:Blk w g t cs)(i:Nat):w.cell? ⟨g,i,none⟩=cs[i]?:=cell_of_row w g i cs t (0,0) h
theorem Blk.frozen(h:Blk w g t cs)(i:Nat):w.frozen? ⟨g,i,none⟩=false:=by
 unfold Blk at h;simp[World.frozen?,h]
theorem Blk.new(w:World)(t:TypeId)(cs:Array Value):Blk (w.alloc (.cells cs t)) w.heap.size t cs:=heap_alloc_new w _
theorem Blk.drewN(h:Blk w g t cs)(n:Nat):Blk (w.drewN n) g t cs:=h
theorem Blk.alloc(h:Blk w g t cs)(o:Obj):Blk (w.alloc o) g t cs:=(Below.heap_alloc w o g h.lt).trans h
theorem Blk.set_(h:Blk w g t cs)(i:Nat)(u:Value):Blk (w.setCell ⟨g,i,none⟩ u) g t (cs.setIfInBounds i u):=by
 unfold Blk at h ⊢;simp[World.setCell,Array.getElem?_modify,h]
theorem Blk.far(h:Blk w g t cs){p:Addr}(hp:g≠p.block)(u:Value):Blk (w.setCell p u) g t cs:=(Below.heap_setCell w p u g hp).trans h
theorem Blk.below{B:Nat}(h:Blk w g t cs)(hb:Below B w w')(hg:g<B):Blk w' g t cs:=(hb.block g hg).trans h
end
theorem Zm3{A:Option Addr}{n n' c:Nat}(h:n=n'):Ending.returned (.slice A n c)=.returned (.slice A n' c):=by rw[h]
theorem Zih{k:IntKind}{a b:Int}(h:a=b):Ending.returned (.int k a)=.returned (.int k b):=by rw[h]
theorem Zo6{a b:Bool}(h:a=b):Ending.returned (.bool a)=.returned (.bool b):=by rw[h]
abbrev limb(x:Nat):Value:=.int .u32 (x:Int)
def Zt(l:List Nat):Array Value:=(l.map limb).toArray
theorem Zaz(l:List Nat)(i:Nat)(h:i<l.length):(Zt l)[i]?=some (limb (l[i]?.getD 0)):=by
 simp[Zt,Qa h]
theorem Zbw(l:List Nat)(i v:Nat):(Zt l).setIfInBounds i (limb v)=Zt (l.set i v):=by
 simp[Zt,List.map_set]
def Lim(w:World)(A:Option Addr)(n c:Nat)(l:List Nat):Prop:=
 l.length=n/\n<=c/\c<=maxLen/\Lt32 l/\(0<n->∃ b o,A=some ⟨b,o,none⟩/\∀ k,k<n->w.cell? ⟨b,o+k,none⟩=some (limb (l[k]?.getD 0)))
section
variable{w w':World}{A:Option Addr}{n c:Nat}{l:List Nat}
theorem Lim.len(h:Lim w A n c l):l.length=n:=h.1
theorem Lim.lt(h:Lim w A n c l):Lt32 l:=h.2.2.2.1
theorem Lim.nil(w:World)(A:Option Addr)(c:Nat)(hc:c<=maxLen):Lim w A 0 c []:=⟨rfl,Qo _,hc,Lt32.nil,λh=>absurd h Gk⟩
theorem Lim.at_(h:Lim w A n c l){k:Nat}(hk:k<n):∃ b o,A=some ⟨b,o,none⟩/\w.cell? ⟨b,o+k,none⟩=some (limb (l[k]?.getD 0)):=by
 obtain⟨b,o,e,hc⟩:=h.2.2.2.2 Gk;exact⟨b,o,e,hc k hk⟩
theorem Lim.cell{b o:Nat}(h:Lim w (some ⟨b,o,none⟩) n c l){k:Nat}(hk:k<n):w.cell? ⟨b,o+k,none⟩=some (limb (l[k]?.getD 0)):=by
 obtain⟨b',o',e,hc⟩:=h.at_ hk;cases e;exact hc
theorem Lim.keep(h:Lim w A n c l)(hk:∀ p:Addr,p.block<w.heap.size->w'.cell? p=w.cell? p):Lim w' A n c l:=
 ⟨h.1,h.2.1,h.2.2.1,h.2.2.2.1,λhn=>by
  obtain⟨b,o,e,hc⟩:=h.2.2.2.2 hn;exact⟨b,o,e,λk hk'=>(hk _ (Zn (hc k hk'))).trans (hc k hk')⟩⟩
theorem Lim.below(h:Lim w A n c l)(hb:Below w.heap.size w w'):Lim w' A n c l:=h.keep λ_ hp=>hb.cell hp
theorem Lim.drew(h:Lim w A n c l):Lim w.drew A n c l:=h
theorem Lim.drewN(h:Lim w A n c l)(k:Nat):Lim (w.drewN k) A n c l:=h
theorem Lim.alloc(h:Lim w A n c l)(o:Obj):Lim (w.alloc o) A n c l:=h.below ((Qu _ _).alloc (Qb _) _)
theorem Lim.take(h:Lim w A n c l){k:Nat}(hk:k<=n):Lim w A k c (l.take k):=
 ⟨by rw[Qk,h.len];omega,by have:=h.2.1;omega,h.2.2.1,h.lt.take k,λh0=>by
  obtain⟨b,o,e,hc⟩:=h.2.2.2.2 Gk;refine⟨b,o,e,λj hj=>?_⟩;rw[hc j Gk,QG,Gx hj]⟩
theorem Lim.lt_pw(h:Lim w A n c l):val l<pw n:=by have:=Zfn h.lt;rw[h.len]at this;exact this
theorem Lim.of_blk{g:Nat}{t:TypeId}(h:Blk w g t (Zt l))(hl:Lt32 l)(hn:l.length<=maxLen):Lim w (some ⟨g,0,none⟩) l.length l.length l:=
 ⟨rfl,Qb _,hn,hl,λ_=>⟨_,_,rfl,λk hk=>by rw[Qv,h.cell,Zaz l k hk]⟩⟩
theorem Lim.canon(h:Lim w A n c l):Lim w A (digits (val l)).length c (digits (val l))/\(digits (val l)).length<=n:=by
 have e:(digits (val l)).length<=n:=(Zo _ _).2 h.lt_pw;have ht:=h.take e
 have:l.take (digits (val l)).length=digits (val l):=by
  have hv:val (l.take (digits (val l)).length)=val l:=by
   have h1:=Zaa l (digits (val l)).length (by rw[h.len];exact e);have h2:=Zdm (val l);rcases Qh (val (l.drop (digits (val l)).length))with h0|h0;rw[h0]at h1;omega;have:=Qf (pw (digits (val l)).length) h0;omega
  refine val_inj (h.lt.take _) (Zjp _) ?_ ?_;rw[Qk,h.len];omega;rw[hv,Zh]
 rw[this]at ht;exact⟨ht,e⟩
end
def OutL(w:World)(P:List Nat->Prop)(e:Ending)(w':World):Prop:=
 ∃ A n c l,e=.returned (.slice A n c)/\Lim w' A n c l/\P l/\Below w.heap.size w w'
theorem Zgm{P:Program}(t e:TypeId){i:TypeInfo}(ht:P.underlying t=some (.slice e))(hi:P.info? e=some i)(hz:i.zero=some (.int .u32 0))(hs:i.size=1)(hb:i.bytes=4)
    (x:Int) (n:Nat) (hx:x=n) (hn:n<=70368744177664) (W:World) :
    (Instr.makeSlice t (.int .i64 x) (.int .i64 x)).run P W=.ok (.slice (some ⟨W.heap.size,0,none⟩) n n) (W.alloc (.cells (Zt (Qc n 0)) e)):=by
 subst hx;have hr:=run_make (P:=P) W t e i (.int .u32 0) ht hi hz .i64 .i64 n n Gk Gk (by rw[hb];omega) Gk;simp only[Int.toNat_natCast]at hr;rw[hr]
 have:madeCells (Value.int .u32 0).cells (n*i.size)=Zt (Qc n 0):=by
  rw[hs,Yw];apply Array.toList_inj.1;rw[show (Value.int .u32 0).cells=#[.int .u32 0] from rfl,toList_madeCells_one];simp[Zt]
 rw[this]
def sg(neg:Bool)(v:Nat):Int:=if neg then -(v:Int)else v
def Wd(w:World)(neg:Bool)(A:Option Addr)(n c:Nat)(z:Int):Prop:=neg=decide (z<0)/\n<=4096/\Lim w A n c (digits z.natAbs)
def ResP(w':World)(z:Int)(neg:Bool)(A:Option Addr)(n c:Nat)(code:Int):Prop:=
 (z.natAbs<pw 4096/\code=0/\Wd w' neg A n c z) \/ (pw 4096<=z.natAbs/\code=16/\neg=false/\A=none/\n=0/\c=0)
def ResW(w:World)(z:Int)(e:Ending)(w':World):Prop:=
 Below w.heap.size w w'/\∃ neg A n c code,e=.returned (.tuple #[.agg #[.bool neg,.slice A n c],.int .i64 code])/\ResP w' z neg A n c code
section
variable{w w':World}{neg:Bool}{A:Option Addr}{n c:Nat}{z:Int}
theorem Wd.below(h:Wd w neg A n c z)(hb:Below w.heap.size w w'):Wd w' neg A n c z:=⟨h.1,h.2.1,h.2.2.below hb⟩
theorem Wd.lim(h:Wd w neg A n c z):Lim w A n c (digits z.natAbs):=h.2.2
theorem Wd.small(h:Wd w neg A n c z):z.natAbs<pw 4096:=by
 have:=h.2.2.len;exact(Zo _ _).1 (by rw[this];exact h.2.1)
theorem Wd.zero(w:World):Wd w false none 0 0 0:=⟨by simp,by omega,by rw[show digits (Int.natAbs 0)=[] from Zaq];exact Lim.nil _ _ _ (Qo _)⟩
theorem Wd.sgEq(h:Wd w neg A n c z):sg neg (val (digits z.natAbs))=z:=by
 rw[h.1,Zh];unfold sg;split <;> simp_all <;> omega
theorem Z0(neg:Bool)(v:Nat):(sg neg v).natAbs=v:=by unfold sg;split <;> simp
theorem Zkw(neg:Bool)(v:Nat):decide (sg neg v<0)=(neg && decide (0<v)):=by
 unfold sg;cases neg <;> simp
theorem length_digits_pos{v:Nat}:0<(digits v).length ↔ 0<v:=by
 constructor
 ·intro h;rcases Qh v with rfl|h'
  rw[Zaq]at h;simp at h;exact h'
 intro h;rcases Qh (digits v).length with h'|h';have:=(Zo v 0).1 Gk;rw[Zd6]at this;omega;exact h'
theorem Wd.made{l:List Nat}(h:Lim w A n c l)(neg:Bool)(hs:val l<pw 4096):Wd w (neg && decide (0<(digits (val l)).length)) A (digits (val l)).length c (sg neg (val l)):=by
 refine⟨?_,(Zo _ _).2 hs,?_⟩;rw[Zkw];congr 1;simp[length_digits_pos];rw[Z0];exact h.canon.1
end
theorem Fj{G:Prop}(h:G:=by
 have h:x*y<=4294967295*4294967295:=Nat.mul_le_mul Gk Gk;have e:(x:Int)*y=((x*y:Nat):Int):=Gh;rw[e];generalize x*y=t at *;simp only[IntKind.wrap_u64];omega):G:=h
theorem mulstep{c x y z:Nat}(hc:c<4294967296)(hx:x<4294967296)(hy:y<4294967296)(hz:z<4294967296) :
    IntKind.u64.wrap ((c:Int)+IntKind.u64.wrap (IntKind.u64.wrap ((x:Int)*y)+z))=((c+x*y+z:Nat):Int):=by
 exact Fj
theorem Zqd(t:Nat):(t:Int)/4294967296=((t/4294967296:Nat):Int):=by omega
theorem Zo8(t:Nat):(t:Int)%4294967296=((t%4294967296:Nat):Int):=by omega
theorem Zdf{W w1:World}(hb:Below W.heap.size W w1):(∀ b o,b<W.heap.size->w1.cell? ⟨b,o,none⟩=W.cell? ⟨b,o,none⟩)/\(∀ b o,b<W.heap.size->w1.frozen? ⟨b,o,none⟩=W.frozen? ⟨b,o,none⟩):=
 ⟨λb o h=>hb.cell (p:=⟨b,o,none⟩) h,λb o h=>hb.frozen (p:=⟨b,o,none⟩) h⟩
theorem Za{W w1:World}{p:Addr}{v:Value}(hb:Below W.heap.size W w1)(h:W.cell? p=some v):w1.cell? p=some v:=(hb.cell (Zn h)).trans h
theorem Zl{W w1:World}{p:Addr}{v:Value}(hb:Below W.heap.size W w1)(h:W.cell? p=some v)(hf:W.frozen? p=false):w1.frozen? p=false:=(hb.frozen (Zn h)).trans hf
attribute [local go_sem] Zf
theorem EB{G:Prop}(h:G:=by
 have hb:(((l[k-1]?.getD 0:Nat):Int) == 0)=true:=by simp[hx]
 clear h;have hx:=Zb hx
 go_wp2
 go_round
 case rel=>exact⟨k-1,by omega,by go_num,λj hj=>by
     rcases Nat.lt_or_ge j k with h'|h'
     ·obtain rfl:j=k-1:=Gk
      exact hx.out
     exact hz.out j h'⟩
 case measure=>simp[intOf];omega):G:=h
theorem Zff(A:Option Addr)(n c:Nat)(l:List Nat)(w:World)(h:Lim w A n c l) :
    Calls Tryz.prog 134 #[.slice A n c] w λe w'=>e=.returned (.slice A (digits (val l)).length c)/\w=w':=by
 have hn:=h.2.1;have hm:=h.2.2.1;unfold maxLen at hm;go_in
 go_wp2
 go_loop [3] (λv=>∃ k:Nat,k<=n/\v=.int .i64 k/\Hid (∀ j,k<=j->l[j]?.getD 0=0)) (λv=>(intOf v).toNat)
 case atStart=>exact⟨n,Qb _,rfl,λj hj=>by rw[Qn (by rw[h.len];exact hj)];rfl⟩
 case round =>
  obtain⟨k,hk,rfl,hz⟩:=hrel;by_cases hk0:0<k
  ·obtain⟨b,o,rfl,u⟩:=h.at_ (k:=k-1) Gk
   by_cases hx:l[k-1]?.getD 0=0;exact EB;have hb:(((l[k-1]?.getD 0:Nat):Int) == 0)=false:=by simpa using hx
   have hd:=Zfs hz.out (Or.inr hx) h.lt;have f:=congrArg List.length hd;rw[Qk,h.len,Qs hk]at f;have HL:=Zb f;clear h hd f hx
   go_wp2
   go_ret;exact⟨Zm3 HL.out.symm,rfl⟩
  obtain rfl:k=0:=Gk;have HL:=Zb (congrArg List.length (Zfs hz.out (Or.inl rfl) h.lt));clear h
  go_wp2
  go_ret;exact⟨Zm3 HL.out.symm,rfl⟩
theorem Zht{a b:Int}{s k:Nat}(h1:a=s)(h2:b=k):Ending.returned (.tuple #[.int .u32 a,.int .u32 b])=.returned (.tuple #[limb s,limb k]):=by rw[h1,h2]
def Sum32(t:Nat)(w:World)(e:Ending)(w':World):Prop:=
 ∃ s k:Nat,e=.returned (.tuple #[limb s,limb k])/\s<4294967296/\s+4294967296*k=t/\w=w'
theorem Zhb(x y c:Nat)(w:World)(hx:x<4294967296)(hy:y<4294967296)(hc:c<=1) :
    Calls Tryz.prog 155 #[limb x,limb y,limb c] w (Sum32 (x+y+c) w):=by
 go_in
 go_wp2
 go_ret2
 exact⟨(x+y+c)%4294967296,(x+y+c)/4294967296,Zht Gk Gk,by omega,by omega,rfl⟩
theorem Zfe(z:Nat)(h:z<4294967296):z.testBit 31=decide (2147483648<=z):=by
 rw[Nat.testBit_eq_decide_div_mod_eq];congr 1;apply propext;constructor <;> intro h' <;> omega
theorem div31(z:Nat)(h:z<4294967296):z/2147483648=(z.testBit 31).toNat:=by
 rw[Zfe z h];by_cases h':2147483648<=z;simp[h'];omega;simp[h'];omega
theorem Zq3(x y d c:Nat)(hx:x<4294967296)(hy:y<4294967296)(hc:c<=1)(hd:d<4294967296)(k:Nat)(he:d+y+c=x+4294967296*k) :
    ((((4294967295 ^^^ x) &&& y) ||| ((4294967295 ^^^ (x ^^^ y)) &&& d))/2147483648)=k:=by
 have f:x ^^^ y<2^32:=Qr Gk Gk;have h1:4294967295 ^^^ x<2^32:=Qr Gk Gk;have h2:4294967295 ^^^ (x ^^^ y)<2^32:=Qr Gk f;have h3:(4294967295 ^^^ x) &&& y<2^32:=QH _ Gk;have h4:(4294967295 ^^^ (x ^^^ y)) &&& d<2^32:=QH _ Gk;have h5:=Nat.or_lt_two_pow h3 h4;rw[div31 _ Gk];simp only[Nat.testBit_or,Nat.testBit_and,Nat.testBit_xor,Zfe x hx,Zfe y hy,Zfe d hd,Zfe 4294967295 Gk];by_cases a:2147483648<=x <;> by_cases b:2147483648<=y <;> by_cases e:2147483648<=d <;> simp[a,b,e] <;> omega
def Dif32(x y c:Nat)(w:World)(e:Ending)(w':World):Prop:=
 ∃ d k:Nat,e=.returned (.tuple #[limb d,limb k])/\d<4294967296/\k<=1/\d+y+c=x+4294967296*k/\w=w'
theorem Zhe(x y c:Nat)(w:World)(hx:x<4294967296)(hy:y<4294967296)(hc:c<=1) :
    Calls Tryz.prog 156 #[limb x,limb y,limb c] w (Dif32 x y c w):=by
 go_in
 go_wp2
 go_ret2
 have e1:((x:Int)-y-c)%4294967296=(((x+8589934592-y-c)%4294967296:Nat):Int):=Gk;have hd:(x+8589934592-y-c)%4294967296<4294967296:=Gk;obtain⟨k,hk⟩:∃ k,k<=1/\(x+8589934592-y-c)%4294967296+y+c=x+4294967296*k:=⟨if x<y+c then 1 else 0,by split <;> omega⟩;refine⟨(x+8589934592-y-c)%4294967296,k,Zht e1 ?_,hd,hk.1,hk.2,rfl⟩;show bits .or .u32 _ _/2147483648=_;rw[e1,show (IntKind.u32.max:Int)=((4294967295:Nat):Int) from rfl];have hb:=Zq3 x y _ c hx hy hc hd k hk.2;generalize (x+8589934592-y-c)%4294967296=d at *;have e:x ^^^ y<2^32:=Qr Gk Gk;have h1:4294967295 ^^^ x<2^32:=Qr Gk Gk;have h2:4294967295 ^^^ (x ^^^ y)<2^32:=Qr Gk e;have h3:(4294967295 ^^^ x) &&& y<2^32:=QH _ Gk;have h4:(4294967295 ^^^ (x ^^^ y)) &&& d<2^32:=QH _ Gk;rw[u32_xor_nat x y hx hy,u32_xor_nat _ x Gk hx,u32_xor_nat _ (x ^^^ y) Gk Gk,u32_and_nat _ y Gk hy,u32_and_nat _ d Gk hd,u32_or_nat _ _ Gk Gk];omega
theorem Zdc:(Tryz.prog.info? 143).map (λi=>(i.zero,i.size,i.bytes))=some (some (.int .u32 0),1,4):=by kernel_rfl
def Plus1(w:World)(a b:List Nat)(g n k carry:Nat)(wr:World):Prop:=
 ∃ out,Blk wr g 143 (Zt out)/\out.length=n+1/\Lt32 out/\(∀ j,k<=j->out[j]?.getD 0=0)/\val out+pw k*carry=val (a.take k)+val (b.take k)/\Below w.heap.size w wr
theorem Plus1.start(w:World)(a b:List Nat)(n:Nat):Plus1 w a b w.heap.size n 0 0 (w.alloc (.cells (Zt (Qc (n+1) 0)) 143)):=
 ⟨Qc (n+1) 0,Blk.new _ _ _,by simp,Lt32.replicate _,λj _=>Zdu _ _,by simp[Zd8,val],(Qu _ _).alloc (Qb _) _⟩
theorem Plus1.step{w wr:World}{a b out:List Nat}{n k carry s q:Nat}(hblk:Blk wr w.heap.size 143 (Zt out))(hlen:out.length=n+1)(hlt:Lt32 out)(hz:∀ j,k<=j->out[j]?.getD 0=0)
    (hI:val out+pw k*carry=val (a.take k)+val (b.take k)) (hB:Below w.heap.size w wr) (hk:k<n) (hs:s<4294967296) (he:s+4294967296*q=a[k]?.getD 0+b[k]?.getD 0+carry) :
    Plus1 w a b w.heap.size n (k+1) q (wr.setCell ⟨w.heap.size,k,none⟩ (limb s)):=
 ⟨out.set k s,by rw[<- Zbw];exact hblk.set_ _ _,by rw[Qg];exact hlen,hlt.set _ hs,λj hj=>by rw[getD_set_ne _ Gk];exact hz j Gk,
  Ztb Gk (hz k (Qb _)) hI he,hB.setCell (p:=⟨w.heap.size,k,none⟩) (Qb _) _⟩
theorem Plus1.stop{w wr:World}{a b out:List Nat}{n carry:Nat}(hblk:Blk wr w.heap.size 143 (Zt out))(hlen:out.length=n+1)(hlt:Lt32 out)(hz:∀ j,n<=j->out[j]?.getD 0=0)
    (hI:val out+pw n*carry=val (a.take n)+val (b.take n)) (hB:Below w.heap.size w wr) (hc:carry<=1) (ha:a.length<=n) (hb:b.length<=n) (hn:n<maxLen) :
    OutL w (λl=>l.length=n+1/\val l=val a+val b) (.returned (.slice (some ⟨w.heap.size,0,none⟩) (n+1) (n+1))) (wr.setCell ⟨w.heap.size,n,none⟩ (limb carry)):=by
 have e:Blk (wr.setCell ⟨w.heap.size,n,none⟩ (limb carry)) w.heap.size 143 (Zt (out.set n carry)):=by rw[<- Zbw];exact hblk.set_ _ _
 have hL:=Lim.of_blk e (hlt.set _ Gk) (by rw[Qg];omega);rw[Qg,hlen]at hL;refine⟨_,_,_,_,rfl,hL,⟨by rw[Qg];exact hlen,?_⟩,hB.setCell (p:=⟨w.heap.size,n,none⟩) (Qb _) _⟩;have:=Zg3 (l:=out) (k:=n) Gk carry;rw[hz n (Qb _)]at this;rw[Z8 ha,Z8 hb]at hI;omega
theorem Et{G:Prop}(h:G:=by
 go_in
 go_wp2
 go_loopw [6,23] (λcv iv wr=>∃ k carry:Nat,k<=n/\carry<=1/\cv=limb carry/\iv=.int .i64 k/\Plus1 w a b w.heap.size n k carry wr) (λ_ iv _=>n-(intOf iv).toNat)
 case atStart=>exact⟨0,0,Nat.zero_le _,Nat.zero_le _,rfl,rfl,Plus1.start w a b n⟩
 case round =>
  obtain⟨k,carry,hk,fw,rfl,rfl,hP⟩:=hrel;by_cases hlt1:k<n
  ·have iQ:=hP
   obtain⟨out,aF,aL,dv,hz,hI,hB⟩:=iQ;have HP:=Zb hP;clear hP;have hz:=Zb hz;have hI:=Zb hI;have aL:=Zb aL;have jf:=aF.lt;obtain⟨ba,oa,rfl,jG⟩:=(ha.below hB).at_ hlt1;have ir:=ha.lt.get k;have fv:=aF.cell k;rw[Zaz out k (by rw[aL.out];omega),hz.out k (Nat.le_refl _)]at fv;have iY:=aF.frozen k;by_cases eN:k<m
   ·obtain⟨bb,ob,rfl,jH⟩:=(hb.below hB).at_ eN
    have ji:=hb.lt.get k;go_wp2_with (go_at_call 155;refine(Zhb _ _ _ _ ir ji fw).mono ?_;rintro e w' ⟨s,q,rfl,hs,he,rfl⟩;have hE:=Zb he;clear he)
    go_roundw
    case rel=>exact⟨k+1,q,by omega,by have:=hE.out;omega,rfl,by go_num,Plus1.step aF aL.out dv hz.out hI.out hB hlt1 hs hE.out⟩
    case measure=>simp[intOf];omega
   have iU:=Zb (getD_none (l:=b) (i:=k) (by rw[hb.len];omega));go_wp2_with (go_at_call 155;refine(Zhb _ 0 _ _ ir Gk fw).mono ?_;rintro e w' ⟨s,q,rfl,hs,he,rfl⟩;have hE:=Zb he;clear he)
   go_roundw
   case rel=>exact⟨k+1,q,by omega,by have:=hE.out;omega,rfl,by go_num,Plus1.step aF aL.out dv hz.out hI.out hB hlt1 hs (by rw[iU.out];exact hE.out)⟩
   case measure=>simp[intOf];omega
  have HF:=Zb (HS.out k carry wr hP Gk hk fw);obtain⟨out,aF,aL,dv,hz,hI,hB⟩:=hP;have fv:=aF.cell n;rw[Zaz out n Gk,hz n Gk]at fv;have iY:=aF.frozen n;have jf:=aF.lt;clear aF hz hI aL
  go_wp2
  go_ret;exact HF.out):G:=h
theorem Zpt(sw:Bool)(A B:Option Addr)(n c m d:Nat)(a b:List Nat)(w:World)(ha:Lim w A n c a)(hb:Lim w B m d b)(hsw:sw=true->m<n)(hsw':sw=false->m<=n)(hn:n<=1000000000) :
    Calls Tryz.prog 135 (if sw=true then #[.slice B m d,.slice A n c]else #[.slice A n c,.slice B m d]) w (OutL w λl=>l.length=n+1/\val l=val a+val b):=by
 obtain⟨i0,hi,u,E,I⟩:=info_parts Zdc;have U:=Zgm (P:=Tryz.prog) 28 143 Tryz.underlying28 hi u E I ((n:Int)+1) (n+1) Gk Gk;have J:=ha.2.1;have Y:=hb.2.1;have o:=ha.2.2.1;have C:=hb.2.2.1;have f:n<maxLen:=by unfold maxLen;omega
 unfold maxLen at o C
 have HS:Hid (∀ k carry wr,Plus1 w a b w.heap.size n k carry wr->n<=k->k<=n->carry<=1->OutL w (λl=>l.length=n+1/\val l=val a+val b) (.returned (.slice (some ⟨w.heap.size,0,none⟩) (n+1) (n+1))) (wr.setCell ⟨w.heap.size,n,none⟩ (limb carry))):=by
  rintro k carry wr ⟨out,h1,h2,h3,h4,h5,h6⟩ h7 h8 h9;obtain rfl:k=n:=Gk;exact Plus1.stop h1 h2 h3 h4 h5 h6 h9 (by rw[ha.len];omega) (by rw[hb.len];cases sw;exact hsw' rfl;exact Yr (hsw rfl)) f
 have O:m<=n:=by cases sw;exact hsw' rfl;exact Yr (hsw rfl)
 cases sw
 ·clear hsw hsw' f
  have h:decide (n<m)=false:=by simp;omega
  show Calls _ _ #[.slice A n c,.slice B m d] _ _;exact Et
 have dv:m<n:=hsw rfl;clear hsw hsw' f;have h:decide (m<n)=true:=by simp;omega
 show Calls _ _ #[.slice B m d,.slice A n c] _ _;exact Et
theorem Zp2(A B:Option Addr)(n c m d:Nat)(a b:List Nat)(w:World)(ha:Lim w A n c a)(hb:Lim w B m d b)(hn:n<=1000000000)(hm:m<=1000000000) :
    Calls Tryz.prog 135 #[.slice A n c,.slice B m d] w (OutL w λl=>l.length=max n m+1/\val l=val a+val b):=by
 rcases Ql n m with h|h
 ·refine(Zpt true B A m d n c b a w hb ha (λ_=>h) (λe=>by cases e) hm).mono ?_
  rintro e w' ⟨A',n',c',l,he,hL,hP,hB⟩;exact⟨A',n',c',l,he,hL,⟨by rw[hP.1,Nat.max_eq_right (Yr h)],by rw[hP.2,Yq]⟩,hB⟩
 refine(Zpt false A B n c m d a b w ha hb (λe=>by cases e) (λ_=>h) hn).mono ?_;rintro e w' ⟨A',n',c',l,he,hL,hP,hB⟩;exact⟨A',n',c',l,he,hL,⟨by rw[hP.1,Nat.max_eq_left h],hP.2⟩,hB⟩
def Minus1(w:World)(a b:List Nat)(g n k borrow:Nat)(wr:World):Prop:=
 ∃ out,Blk wr g 143 (Zt out)/\out.length=n/\Lt32 out/\(∀ j,k<=j->out[j]?.getD 0=0)/\val out+val (b.take k)=val (a.take k)+pw k*borrow/\Below w.heap.size w wr
theorem Minus1.start(w:World)(a b:List Nat)(n:Nat):Minus1 w a b w.heap.size n 0 0 (w.alloc (.cells (Zt (Qc n 0)) 143)):=
 ⟨Qc n 0,Blk.new _ _ _,by simp,Lt32.replicate _,λj _=>Zdu _ _,by simp[Zd8,val],(Qu _ _).alloc (Qb _) _⟩
theorem Minus1.step{w wr:World}{a b out:List Nat}{n k borrow s q:Nat}(hblk:Blk wr w.heap.size 143 (Zt out))(hlen:out.length=n)(hlt:Lt32 out)(hz:∀ j,k<=j->out[j]?.getD 0=0)
    (hI:val out+val (b.take k)=val (a.take k)+pw k*borrow) (hB:Below w.heap.size w wr) (hk:k<n) (hs:s<4294967296) (he:s+b[k]?.getD 0+borrow=a[k]?.getD 0+4294967296*q) :
    Minus1 w a b w.heap.size n (k+1) q (wr.setCell ⟨w.heap.size,k,none⟩ (limb s)):=
 ⟨out.set k s,by rw[<- Zbw];exact hblk.set_ _ _,by rw[Qg];exact hlen,hlt.set _ hs,λj hj=>by rw[getD_set_ne _ Gk];exact hz j Gk,
  Zq2 Gk (hz k (Qb _)) hI he,hB.setCell (p:=⟨w.heap.size,k,none⟩) (Qb _) _⟩
theorem Il{G:Prop}(h:G:=by
 rcases Nat.eq_zero_or_pos borrow with h0|h0;subst h0;omega;have:=Nat.mul_le_mul_left (pw n) h0;omega):G:=h
theorem Minus1.stop{w wr:World}{a b:List Nat}{n borrow:Nat}(h:Minus1 w a b w.heap.size n n borrow wr)(ha:a.length<=n)(hb:b.length<=n)(hab:val b<=val a)(hn:n<=maxLen) :
    OutL w (λl=>l.length=n/\val l+val b=val a) (.returned (.slice (some ⟨w.heap.size,0,none⟩) n n)) wr:=by
 obtain⟨out,o,e,f,-,hI,hB⟩:=h;have hL:=Lim.of_blk o f Gk;rw[e]at hL;refine⟨_,_,_,_,rfl,hL,⟨e,?_⟩,hB⟩;rw[Z8 ha,Z8 hb]at hI;have:=Zfn f;rw[e]at this;exact Il
theorem Zi4(A B:Option Addr)(n c m d:Nat)(a b:List Nat)(w:World)(ha:Lim w A n c a)(hb:Lim w B m d b)(hmn:m<=n)(hab:val b<=val a)(hn:n<=1000000000) :
    Calls Tryz.prog 136 #[.slice A n c,.slice B m d] w (OutL w λl=>l.length=n/\val l+val b=val a):=by
 obtain⟨i0,hi,O,Y,a1⟩:=info_parts Zdc;have a9:=Zgm (P:=Tryz.prog) 28 143 Tryz.underlying28 hi O Y a1 (n:Int) n rfl Gk;have a8:=ha.2.1;have b0:=hb.2.1;have J:=ha.2.2.1;have U:=hb.2.2.1;have I:n<=maxLen:=by unfold maxLen;omega
 unfold maxLen at J U
 have HS:Hid (∀ borrow wr,Minus1 w a b w.heap.size n n borrow wr->OutL w (λl=>l.length=n/\val l+val b=val a) (.returned (.slice (some ⟨w.heap.size,0,none⟩) n n)) wr):=
  λborrow wr h=>Minus1.stop h (by rw[ha.len];omega) (by rw[hb.len];omega) hab I
 clear I hab;go_in
 go_wp2
 go_loopw [6,15] (λcv iv wr=>∃ k borrow:Nat,k<=n/\borrow<=1/\cv=limb borrow/\iv=.int .i64 k/\Minus1 w a b w.heap.size n k borrow wr) (λ_ iv _=>n-(intOf iv).toNat)
 case atStart=>exact⟨0,0,Qo _,Qo _,rfl,rfl,Minus1.start w a b n⟩
 case round =>
  obtain⟨k,borrow,hk,C,rfl,rfl,hP⟩:=hrel;by_cases hlt1:k<n
  ·obtain⟨out,o,f,u,hz,hI,hB⟩:=hP
   have hz:=Zb hz;have hI:=Zb hI;have f:=Zb f;have a6:=o.lt;obtain⟨ba,oa,rfl,a5⟩:=(ha.below hB).at_ hlt1;have E:=ha.lt.get k;have a3:=o.cell k;rw[Zaz out k (by rw[f.out];omega),hz.out k (Qb _)]at a3;have a7:=o.frozen k;by_cases hm1:k<m
   ·obtain⟨bb,ob,rfl,a4⟩:=(hb.below hB).at_ hm1
    have a2:=hb.lt.get k;go_wp2_with (go_at_call 156;refine(Zhe _ _ _ _ E a2 C).mono ?_;rintro e w' ⟨s,q,rfl,hs,hq,he,rfl⟩;have hE:=Zb he;clear he)
    go_roundw
    case rel=>exact⟨k+1,q,by omega,hq,rfl,by go_num,Minus1.step o f.out u hz.out hI.out hB hlt1 hs hE.out⟩
    case measure=>simp[intOf];omega
   have a0:=Zb (getD_none (l:=b) (i:=k) (by rw[hb.len];omega));go_wp2_with (go_at_call 156;refine(Zhe _ 0 _ _ E Gk C).mono ?_;rintro e w' ⟨s,q,rfl,hs,hq,he,rfl⟩;have hE:=Zb he;clear he)
   go_roundw
   case rel=>exact⟨k+1,q,by omega,hq,rfl,by go_num,Minus1.step o f.out u hz.out hI.out hB hlt1 hs (by rw[a0.out];exact hE.out)⟩
   case measure=>simp[intOf];omega
  obtain rfl:k=n:=Gk;have HF:=Zb (HS.out borrow wr hP);clear hP
  go_wp2
  go_ret;exact HF.out
def MutL(w:World)(g off:Nat)(l:List Nat):Prop:=∀ i,i<l.length->w.cell? ⟨g,off+i,none⟩=some (limb (l[i]?.getD 0))/\w.frozen? ⟨g,off+i,none⟩=false
theorem MutL.set_{w:World}{g off:Nat}{l:List Nat}(h:MutL w g off l){i:Nat}(hi:i<l.length)(x:Nat):MutL (w.setCell ⟨g,off+i,none⟩ (limb x)) g off (l.set i x):=λj hj=>by
 rw[Qg]at hj;refine⟨?_,by rw[World.frozen?_setCell];exact(h j hj).2⟩;by_cases hji:j=i
 ·subst hji
  rw[Zjm _ hi];exact World.cell?_setCell_same _ _ _ (h j hj).1
 rw[getD_set_ne _ (λe=>hji e.symm),Qd _ _ _ _ (by intro e;injection e with e1 e2;omega)];exact(h j hj).1
theorem Zgx{w w':World}{g o:Nat}{u:Value}(h:w.grownBy w' (some g)):w.grownBy (w'.setCell ⟨g,o,none⟩ u) (some g):=
 ⟨h.os,h.tape,h.output,by simpa using h.size,λk hk hne=>(Below.heap_setCell w' ⟨g,o,none⟩ u k (λe=>hne (by rw[e]))).trans (h.block k hk hne)⟩
def SubP(w:World)(g off n q:Nat)(u v:List Nat)(i cy b:Nat)(wr:World):Prop:=
 ∃ l,MutL wr g off l/\l.length=n+1/\Lt32 l/\(∀ j,i<=j->l[j]?.getD 0=u[j]?.getD 0)/\val (l.take i)+q*val (v.take i)=val (u.take i)+pw i*(cy+b)/\w.grownBy wr (some g)
theorem Zp5{c x y:Nat}(hc:c<4294967296)(hx:x<4294967296)(hy:y<4294967296) :
    IntKind.u64.wrap ((c:Int)+IntKind.u64.wrap ((x:Int)*y))=((c+x*y:Nat):Int):=by
 exact Fj
theorem Znn(g off n c d q:Nat)(B:Option Addr)(u v:List Nat)(w:World)(hu:MutL w g off u)(J:u.length=n+1)(hut:Lt32 u)(hnc:n+1<=c)(hcm:c<=maxLen)(hn9:n<=1000000000)
    (hv:Lim w B n d v) (hB:∀ b o,B=some ⟨b,o,none⟩->b≠g) (hq:q<4294967296) :
    Calls Tryz.prog 159 #[.slice (some ⟨g,off,none⟩) (n+1) c,.slice B n d,.int .u32 q] w λe w'=>∃ b l,b<=1/\e=.returned (.bool (decide (b=0)))/\MutL w' g off l/\l.length=n+1/\Lt32 l/\val l+q*val v=val u+pw (n+1)*b/\w.grownBy w' (some g):=by
 unfold maxLen at hcm;have b0:=hv.2.1;have a3:=hv.2.2.1;unfold maxLen at a3;have a0:=Zb hv.len;replace J:=Zb J;go_in
 go_wp2
 go_loopw [14,7,8] (λiv cv bv wr=>∃ i cy b:Nat,i<=n/\iv=.int .i64 i/\cy<4294967296/\cv=.int .u64 cy/\b<=1/\bv=limb b/\SubP w g off n q u v i cy b wr) (λiv _ _ _=>n-(intOf iv).toNat)
 case atStart=>exact⟨0,0,0,Qo _,rfl,by omega,rfl,Qo _,rfl,u,hu,J.out,hut,λ_ _=>rfl,by simp[val],World.grownBy.refl w _⟩
 case round =>
  obtain⟨i,cy,b,a9,rfl,a1,rfl,a2,rfl,l,hl,E,O,C,hI,hg⟩:=hrel;replace E:=Zb E;replace C:=Zb C;replace hI:=Zb hI;by_cases hi:i<n
  ·obtain⟨bb,ob,rfl,Y⟩:=hv.at_ hi
   have a5:=hB bb ob rfl;have a7:=(Yo (a:=⟨bb,ob+i,none⟩) (hg.block bb (Zn Y) (λe=>a5 (by injection e)))).trans Y;have hx:=hv.lt.get i;have hy:=hut.get i;obtain⟨U,a4⟩:=hl i (by rw[E.out];omega);rw[C.out i (Qb _)]at U;have f:i<l.length:=by rw[E.out];omega
   go_wp2_with fail;rw[Zp5 a1 hq hx,Zo8]
   have a6:cy+q*v[i]?.getD 0<18446744073709551616:=by
    have h:q*v[i]?.getD 0<=4294967295*4294967295:=QS Gk Gk;omega
   obtain⟨t,ht⟩:=Gz (cy+q*v[i]?.getD 0);rw[ht]at a6 ⊢;replace ht:=Zb ht;refine(Zhe _ (t%4294967296) _ _ hy (Yc _ Gi) a2).mono ?_;rintro e w' ⟨dd,kk,rfl,hd,hk,he,rfl⟩;replace he:=Zb he;go_wp2_with fail
   go_roundw
   case rel =>
    rw[Zqd];refine⟨i+1,_,kk,by omega,by go_num,by omega,rfl,hk,rfl,l.set i dd,hl.set_ f dd,by rw[Qg];exact E.out,O.set i hd,λj hj=>?_,?_,Zgx hg⟩;rw[getD_set_ne _ Gk];exact C.out j Gk;exact Zim f hI.out (lo:=t%4294967296) (by rw[ht.out];omega) (by have:=he.out;omega)
   case measure=>simp[intOf];omega
  obtain rfl:i=n:=Gk;have hy:=hut.get i;obtain⟨U,a4⟩:=hl i (by rw[E.out];omega);rw[C.out i (Qb _)]at U;have f:i<l.length:=by rw[E.out];omega
  have a8:((cy:Int))%4294967296=(cy:Int):=Gk;go_wp2_with fail;refine(Zhe _ cy _ _ hy a1 a2).mono ?_;rintro e w' ⟨dd,kk,rfl,hd,hk,he,rfl⟩
  have hfin:Hid (val (l.set i dd)+q*val v=val u+pw (i+1)*kk):=by
   have h1:=Zim (v:=v) (q:=q) (lo:=cy) (c:=0) f hI.out (by rw[getD_none (by rw[a0.out];exact Qb _)];omega) he;rw[Z8 (by rw[Qg,E.out];exact Qb _),Z8 (by rw[a0.out];omega),Z8 (by rw[J.out];exact Qb _),Qv]at h1;exact h1
  have hM:=hl.set_ f dd;have hL:=O.set i hd;have hG:=Zgx (o:=off+i) (u:=limb dd) hg;have I:Hid ((l.set i dd).length=i+1):=by unfold Hid;rw[Qg];exact E.out
  replace he:=Zb he;clear hl O;rcases Qh kk with rfl|h0
  ·go_wp2_with fail
   go_returns;exact⟨0,_,by omega,rfl,hM,I.out,hL,hfin.out,hG⟩
  obtain rfl:kk=1:=Gk;go_wp2_with fail;go_returns;exact⟨1,_,by omega,rfl,hM,I.out,hL,hfin.out,hG⟩
structure WE where
 neg:Bool
 A:Option Addr
 n:Nat
 c:Nat
 l:List Nat
def WE.num(e:WE):Int:=sg e.neg (val e.l)
def okW(neg:Bool)(l:List Nat):Bool:=decide (l.length<=4096) && decide (l.getLast?≠some 0) && !(l.isEmpty && neg)
def WE.ok(e:WE):Bool:=okW e.neg e.l
theorem Zsd{neg:Bool}{l:List Nat}(h:4096<l.length):okW neg l=false:=by unfold okW;simp;omega
theorem Zij{l:List Nat}(h:0<l.length):l.getLast?=some (l[l.length-1]?.getD 0):=by
 rw[QF,Qa Gk];rfl
theorem Zpi{neg:Bool}{l:List Nat}(h:0<l.length)(h':l[l.length-1]?.getD 0=0):okW neg l=false:=by
 unfold okW;rw[Zij h,h'];simp
theorem Zvj{neg:Bool}{l:List Nat}(h:0<l.length)(h1:l.length<=4096)(h':l[l.length-1]?.getD 0≠0):okW neg l=true:=by
 have e:l.isEmpty=false:=by cases l <;> simp_all
 unfold okW;rw[Zij h];simp[h1,e,h']
theorem Znl{neg:Bool}{l:List Nat}(h:l.length=0):okW neg l=!neg:=by
 have:l=[]:=Qi h;subst this;simp[okW]
theorem Zj1{neg:Bool}{l:List Nat}(hl:Lt32 l):okW neg l=true ↔ neg=decide (sg neg (val l)<0)/\l.length<=4096/\l=digits (sg neg (val l)).natAbs:=by
 rw[Z0,Zkw];constructor
 ·intro h
  unfold okW at h;simp only[QN,decide_eq_true_eq,Yv,Yn]at h;obtain⟨⟨h1,h2⟩,h3⟩:=h;have h4:=Zm2 hl h2;refine⟨?_,h1,h4⟩;cases neg with
  | false=>rfl
  | true =>
   have:l ≠ []:=λe=>by subst e;simp at h3
   have:0<val l:=by
    rw[<- length_digits_pos,<- h4];exact List.length_pos_iff.2 this
   simp[this]
 rintro⟨h1,h2,h3⟩;unfold okW;simp only[QN,decide_eq_true_eq,Yv,Yn];refine⟨⟨h2,by rw[h3];exact Zge _⟩,λh=>?_⟩;have:l=[]:=by simpa using h
 subst this;rw[h1];simp[val]
theorem Wd.ok{w:World}{neg:Bool}{A:Option Addr}{n c:Nat}{z:Int}(h:Wd w neg A n c z):okW neg (digits z.natAbs)=true:=by
 rw[Zj1 (Zjp _),h.sgEq];exact⟨h.1,by rw[h.2.2.len];exact h.2.1,rfl⟩
theorem Wd.of_ok{w:World}{neg:Bool}{A:Option Addr}{n c:Nat}{l:List Nat}(h:Lim w A n c l)(hk:okW neg l=true):Wd w neg A n c (sg neg (val l)):=by
 obtain⟨h1,h2,h3⟩:=(Zj1 h.lt).1 hk;refine⟨h1,by rw[<- h.len];exact h2,?_⟩;rw[<- h3];exact h
def WL(w:World)(A:Option Addr)(n c:Nat)(es:List WE):Prop:=
 es.length=n/\n<=c/\c<=maxLen/\(0<n->∃ b o,A=some ⟨b,o,none⟩/\∀ k e,es[k]?=some e->w.cell? ⟨b,o+k*2,none⟩=some (.bool e.neg)/\w.cell? ⟨b,o+k*2+1,none⟩=some (.slice e.A e.n e.c)) /\
  ∀ e ∈ es,Lim w e.A e.n e.c e.l
section
variable{w w':World}{A:Option Addr}{n c:Nat}{es:List WE}
theorem WL.len(h:WL w A n c es):es.length=n:=h.1
theorem WL.at_(h:WL w A n c es){k:Nat}(hk:k<n):∃ b o e,A=some ⟨b,o,none⟩/\es[k]?=some e/\w.cell? ⟨b,o+k*2,none⟩=some (.bool e.neg)/\w.cell? ⟨b,o+k*2+1,none⟩=some (.slice e.A e.n e.c)/\Lim w e.A e.n e.c e.l:=by
 obtain⟨b,o,e,hc⟩:=h.2.2.2.1 Gk;have hl:k<es.length:=by rw[h.1];exact hk
 have:=hc k _ (Qa hl);exact⟨b,o,es[k],e,Qa hl,this.1,this.2,h.2.2.2.2 _ (Yx hl)⟩
theorem WL.keep(h:WL w A n c es)(hk:∀ p:Addr,p.block<w.heap.size->w'.cell? p=w.cell? p):WL w' A n c es:=
 ⟨h.1,h.2.1,h.2.2.1,λhn=>by
  obtain⟨b,o,e,hc⟩:=h.2.2.2.1 hn;exact⟨b,o,e,λk e' he=>⟨(hk _ (Zn (hc k e' he).1)).trans (hc k e' he).1,(hk _ (Zn (hc k e' he).2)).trans (hc k e' he).2⟩⟩,
  λe he=>(h.2.2.2.2 e he).keep hk⟩
theorem WL.below(h:WL w A n c es)(hb:Below w.heap.size w w'):WL w' A n c es:=h.keep λ_ hp=>hb.cell hp
end
theorem WL.one{w:World}{neg:Bool}{A:Option Addr}{n c:Nat}{l:List Nat}(h:Lim w A n c l)(t:TypeId) :
    WL (w.alloc (.cells #[.bool neg,.slice A n c] t)) (some ⟨w.heap.size,0,none⟩) 1 1 [⟨neg,A,n,c,l⟩]:=
 ⟨rfl,by omega,by unfold maxLen;omega,λ_=>⟨_,_,rfl,λk e he=>by
  cases k with
  | zero =>
   simp at he;subst he;have hb:=Blk.new w t #[.bool neg,.slice A n c];exact⟨hb.cell 0,hb.cell 1⟩
  | succ k=>simp at he⟩,λe he=>by simp at he;subst he;exact h.alloc _⟩
theorem WL.two{w:World}{neg neg':Bool}{A A':Option Addr}{n c n' c':Nat}{l l':List Nat}(h:Lim w A n c l)(h':Lim w A' n' c' l')(t:TypeId) :
    WL (w.alloc (.cells #[.bool neg,.slice A n c,.bool neg',.slice A' n' c'] t)) (some ⟨w.heap.size,0,none⟩) 2 2 [⟨neg,A,n,c,l⟩,⟨neg',A',n',c',l'⟩]:=
 ⟨rfl,by omega,by unfold maxLen;omega,λ_=>⟨_,_,rfl,λk e he=>by
  have hb:=Blk.new w t #[.bool neg,.slice A n c,.bool neg',.slice A' n' c']
  match k with
  | 0=>simp at he;subst he;exact⟨hb.cell 0,hb.cell 1⟩
  | 1=>simp at he;subst he;exact⟨hb.cell 2,hb.cell 3⟩
  | k+2=>simp at he⟩,λe he=>by
   simp at he;rcases he with rfl|rfl;exact h.alloc _;exact h'.alloc _⟩
theorem Zc{W w1:World}{g:Nat}{t:TypeId}{cs:Array Value}(hb:Below W.heap.size W w1)(h:Blk W g t cs):Blk w1 g t cs:=h.below hb h.lt
def NoLimb(cs:Array Value):Prop:=∀ (i x:Nat),cs[i]?≠some (limb x)
theorem NoLimb.box(b:Bool)(A:Option Addr)(n c:Nat):NoLimb #[.bool b,.slice A n c]:=λi x=>by
 match i with
 | 0=>simp
 | 1=>simp
 | i+2=>simp
theorem Lim.set_box{w:World}{A:Option Addr}{n c:Nat}{l:List Nat}(h:Lim w A n c l){g:Nat}{t:TypeId}{cs:Array Value}(hb:Blk w g t cs)(hcs:NoLimb cs)(i:Nat)(u:Value):Lim (w.setCell ⟨g,i,none⟩ u) A n c l:=
 ⟨h.1,h.2.1,h.2.2.1,h.2.2.2.1,λhn=>by
  obtain⟨b,o,e,hc⟩:=h.2.2.2.2 hn;refine⟨b,o,e,λk hk=>(Qd w _ _ u ?_).trans (hc k hk)⟩;intro he;have f:b=g:=by cases he;rfl
  have:=hc k hk;rw[f,hb.cell]at this;exact hcs _ _ this⟩
theorem ResP.set_box{w:World}{z:Int}{neg:Bool}{A:Option Addr}{n c:Nat}{code:Int}(h:ResP w z neg A n c code){g:Nat}{t:TypeId}{cs:Array Value}(hb:Blk w g t cs)(hcs:NoLimb cs)(i:Nat)(u:Value):ResP (w.setCell ⟨g,i,none⟩ u) z neg A n c code:=by
 rcases h with ⟨h1,h2,h3⟩|h;exact .inl ⟨h1,h2,h3.1,h3.2.1,h3.2.2.set_box hb hcs i u⟩;exact .inr h
theorem ResW.box{w w3:World}{z:Int}{neg:Bool}{A:Option Addr}{n c:Nat}{code:Int}{g:Nat}{t:TypeId}{b0:Bool}{A0:Option Addr}{n0 c0:Nat}(hP:ResP w3 z neg A n c code)(hB:Below w.heap.size w w3)(hg:w.heap.size<=g)(hb:Blk w3 g t #[.bool b0,.slice A0 n0 c0]) :
    ResW w z (.returned (.tuple #[.agg #[.bool neg,.slice A n c],.int .i64 code])) ((w3.setCell ⟨g,0,none⟩ (.bool neg)).setCell ⟨g,1,none⟩ (.slice A n c)):=by
 have e:Blk (w3.setCell ⟨g,0,none⟩ (.bool neg)) g t #[.bool neg,.slice A0 n0 c0]:=hb.set_ 0 (.bool neg);exact⟨(hB.setCell (p:=⟨g,0,none⟩) hg _).setCell (p:=⟨g,1,none⟩) hg _,_,_,_,_,_,rfl,(hP.set_box hb (NoLimb.box _ _ _ _) _ _).set_box e (NoLimb.box _ _ _ _) _ _⟩
def Reads(w:World)(B size:Nat)(A:Option Addr)(n:Nat)(xs:List Value):Prop:=
 xs.length=n*size/\(0<n->∃ ad,A=some ad/\ad.block<B/\∀ j u,xs[j]?=some u->w.cell? (ad.add j)=some u)
section
variable{w w':World}{B B' size n:Nat}{A:Option Addr}{xs:List Value}
theorem Reads.keep(h:Reads w B size A n xs)(hk:∀ p:Addr,p.block<B->w'.cell? p=w.cell? p):Reads w' B size A n xs:=
 ⟨h.1,λhn=>by
  obtain⟨ad,e,hb,hc⟩:=h.2 hn;exact⟨ad,e,hb,λj u hu=>(hk _ (by rw[Zog];exact hb)).trans (hc j u hu)⟩⟩
theorem Reads.alloc(h:Reads w B size A n xs)(hB:B<=w.heap.size)(o:Obj):Reads (w.alloc o) B size A n xs:=h.keep λp hp=>World.cell?_alloc_lt w o p Gk
end
section
variable{P:Program}(w:World)
theorem Zce(base:Nat)(t ty e:TypeId)(i:TypeInfo)(size:Nat)(ht:P.underlying t=some (.slice e))(hi:P.info? e=some i)
    (v:Value) (n:Nat) (xs:List Value) (hown:w.ownsRow base e size v n xs) (c:Nat):(QQ #[t,t] ty #[v,.slice none 0 c]).run P w=.ok v w:=by
 rcases hown.2 with ⟨rfl,rfl⟩|⟨g,cap,cur,rfl,_,_,f,_⟩;simp[QQ,run_underlying ht,sizeOf,typeInfo,hi,Builtin.lenOf,Builtin.firstCells];simp[QQ,run_underlying ht,sizeOf,typeInfo,hi,Builtin.lenOf,Builtin.firstCells,f,storeCells]
theorem Zkc(base:Nat)(t ty e:TypeId)(i:TypeInfo)(z:Value)(size bytes:Nat)(ht:P.underlying t=some (.slice e))(hi:P.info? e=some i)(hz:i.zero=some z)
    (hsize:i.size=size) (hby:i.bytes=bytes) (hzs:z.cells.size=size) (hsz:0<size)
    (v:Value) (n:Nat) (xs:List Value) (hown:w.ownsRow base e size v n xs)
    (B:Nat) (A:Option Addr) (m c:Nat) (news:List Value) (hr:Reads w B size A m news) (h1:∀ u ∈ news,u.oneCell'=true)
    (h63:n+m<=maxLen) (hbytes:(n+m)*bytes<=140737488355328) (hbase:base<=w.heap.size) :
    ∃ v' w',(QQ #[t,t] ty #[v,.slice A m c]).run P w=.ok v' w'/\w'.ownsRow base e size v' (n+m) (xs++news)/\w.grownBy w' v.ownBlock /\
     (v'.ownBlock=v.ownBlock \/ v'.ownBlock=some w.heap.size):=by
 rcases A with _|ad
 ·have hm:m=0:=by
    rcases Qh m with h0|h0;exact h0;obtain⟨ad,h,_⟩:=hr.2 h0;cases h
  subst hm;have hn:news=[]:=Qi (by simpa using hr.1);subst hn;exact⟨v,w,Zce w base t ty e i size ht hi v n xs hown c,by simpa using hown,World.grownBy.refl w _,.inl rfl⟩
 have f:∀ j u,news[j]?=some u->w.cell? (ad.add j)=some u:=by
   intro j u hu;rcases Qh m with h0|h0
   ·subst h0
    have hn:news=[]:=Qi (by simpa using hr.1);subst hn;simp at hu
   obtain⟨C,h,_,hc⟩:=hr.2 h0;injection h with h
   subst h;exact hc j u hu
 obtain⟨v',w',o,h2,h3,_,h5⟩:=run_append_own_at (P:=P) w base t ty e i z size bytes ht hi hz hsize hby hzs hsz v n xs hown ad m c news hr.1 f h1 h63 hbytes hbase;exact⟨v',w',o,h2,h3,h5⟩
theorem Zd7{o:Oper}{a:Act}{K:Act->World->Prop}{Q:Exit->Act->World->Prop}(s x:Operand)(t:TypeId)
    (ho:o.op=.call { callee:=.builtin .append,args:=#[s,x],argTypes:=#[t,t] })
    (base:Nat) (e:TypeId) (i:TypeInfo) (z:Value) (size bytes:Nat) (ht:P.underlying t=some (.slice e)) (hi:P.info? e=some i) (hz:i.zero=some z)
    (hsize:i.size=size) (hby:i.bytes=bytes) (hzs:z.cells.size=size) (hsz:0<size)
    (v:Value) (n:Nat) (xs:List Value) (hs:a.eval s=v) (hown:w.ownsRow base e size v n xs)
    (B:Nat) (A:Option Addr) (m c:Nat) (news:List Value) (hx:a.eval x=.slice A m c) (hr:Reads w B size A m news) (h1:∀ u ∈ news,u.oneCell'=true)
    (h63:n+m<=maxLen) (hbytes:(n+m)*bytes<=140737488355328) (hbase:base<=w.heap.size)
    (h:∀ v' w',w'.ownsRow base e size v' (n+m) (xs++news)->w.grownBy w' v.ownBlock->(v'.ownBlock=v.ownBlock \/ v'.ownBlock=some w.heap.size)->K (a.put o.dst v') w'):o.wp P a w K Q:=by
 obtain⟨v',w',f,h2,h3,h4⟩:=Zkc (P:=P) w base t o.type e i z size bytes ht hi hz hsize hby hzs hsz v n xs hown B A m c news hr h1 h63 hbytes hbase;unfold Oper.wp execOp;simp only[ho,resolve,invoke,builtin,Sem.run_bind,Sem.run_pure,Result.andThen_ok,List.map_toArray,List.map_cons,List.map_nil,hs,hx,f];exact h v' w' h2 h3 h4
theorem Zp{ops:Array Oper}{rest:List Oper}{o:Oper}{a:Act}{Q:Exit->Act->World->Prop}(hgd:o.guard=none)(s x:Operand)(t:TypeId)
    (ho:o.op=.call { callee:=.builtin .append,args:=#[s,x],argTypes:=#[t,t] })
    (base:Nat) (e:TypeId) (i:TypeInfo) (z:Value) (size bytes:Nat) (ht:P.underlying t=some (.slice e)) (hi:P.info? e=some i) (hz:i.zero=some z)
    (hsize:i.size=size) (hby:i.bytes=bytes) (hzs:z.cells.size=size) (hsz:0<size)
    (v:Value) (n:Nat) (xs:List Value) (hs:a.eval s=v) (hown:w.ownsRow base e size v n xs)
    (B:Nat) (A:Option Addr) (m c:Nat) (news:List Value) (hx:a.eval x=.slice A m c) (hr:Reads w B size A m news) (h1:∀ u ∈ news,u.oneCell'=true)
    (h63:n+m<=maxLen) (hbytes:(n+m)*bytes<=140737488355328) (hbase:base<=w.heap.size)
    (h:∀ v' w',w'.ownsRow base e size v' (n+m) (xs++news)->w.grownBy w' v.ownBlock->(v'.ownBlock=v.ownBlock \/ v'.ownBlock=some w.heap.size)->wpList P ops Q rest (a.put o.dst v') w'):wpList P ops Q (o::rest) a w:=
 wpList_plain hgd λ_ hK=>Zd7 w s x t ho base e i z size bytes ht hi hz hsize hby hzs hsz v n xs hs hown B A m c news hx hr h1 h63 hbytes hbase λv' w' h2 h3 h4=>hK _ _ (h v' w' h2 h3 h4)
end
theorem It{G:Prop}(h:G:=by
 rcases Nat.lt_or_ge j n with h'|h';exact h';rw[List.getElem?_eq_none (by simp[h.len];exact h')]at hu;cases hu):G:=h
theorem Lim.reads{w:World}{A:Option Addr}{n c:Nat}{l:List Nat}(h:Lim w A n c l):Reads w w.heap.size 1 A n (l.map limb):=
 ⟨by simp[h.len],λhn=>by
  obtain⟨b,o,e,hc⟩:=h.2.2.2.2 hn;refine⟨_,e,Zn (hc 0 hn),λj u hu=>?_⟩;rw[Zf]
  have hj:j<n:=by
   exact It
  rw[hc j hj];rw[Ya,Qa (by rw[h.len];exact hj)]at hu;rw[Qa (by rw[h.len];exact hj)];simpa using hu⟩
def OwnL(t:TypeId)(w:World)(base:Nat)(v:Value)(l:List Nat):Prop:=w.ownsRow base t 1 v l.length (l.map limb)/\Lt32 l
theorem OwnL.nil(t:TypeId)(w:World)(base:Nat):OwnL t w base (.slice none 0 0) []:=⟨World.ownsRow_nil _ _ _ _,Lt32.nil⟩
theorem Fx{G:Prop}(h:G:=by
 rw[List.getElem?_take,Gx Gk,List.getElem?_map,List.getElem?_eq_getElem hk]at h3;rw[List.getElem?_eq_getElem hk];simpa using h3):G:=h
theorem OwnL.lim{t:TypeId}{w:World}{base:Nat}{v:Value}{l:List Nat}(h:OwnL t w base v l):∃ A c,v=.slice A l.length c/\Lim w A l.length c l:=by
 obtain⟨h1,h2⟩:=h;rcases h1.2 with ⟨hv,h0⟩|⟨g,cap,cur,hv,_,hh,e,f,o,ht⟩
 ·have:l=[]:=Qi h0
  subst this;exact⟨none,0,hv,Lim.nil _ _ _ (Qo _)⟩
 refine⟨_,cap,hv,rfl,e,f,h2,λ_=>⟨g,0,rfl,λk hk=>?_⟩⟩;rw[Qv,cell_of_row w g k cur t (0,0) hh];have h3:(cur.toList.take (l.length*1))[k]?=(l.map limb)[k]?:=by rw[ht]
 exact Fx
theorem OwnL.append{t:TypeId}{w':World}{base:Nat}{v':Value}{l m:List Nat}{n k:Nat}(hn:n=l.length)(hk:k=m.length)(h:w'.ownsRow base t 1 v' (n+k) (l.map limb++m.map limb))(hl:Lt32 l)(hm:Lt32 m):OwnL t w' base v' (l++m):=by
 subst hn hk;refine⟨?_,hl.append hm⟩;rw[Ys,List.map_append];exact h
theorem OwnL.row_ge{t:TypeId}{w:World}{base:Nat}{v:Value}{l:List Nat}(h:OwnL t w base v l):∀ k,v.ownBlock=some k->base<=k:=λk hk=>(h.1.lt k hk).1
theorem Zd5(l:List Nat):∀ u ∈ l.map limb,u.oneCell'=true:=λu hu=>by
 obtain⟨x,_,rfl⟩:=List.mem_map.1 hu;rfl
theorem Zhh(w:World)(t:TypeId)(size:Nat):(w.alloc (.cells #[] t)).ownsRow w.heap.size t size (.slice (some ⟨w.heap.size,0,none⟩) 0 0) 0 []:=by
 have:=World.ownsRow_lit (base:=w.heap.size) (e:=t) (size:=size) w #[] 0 (Qb _) (Qo _) Gh;simpa using this
theorem OutL.of_append{t:TypeId}{w w1 wb:World}{v1:Value}{m:List Nat}{k:Nat}{P:List Nat->Prop}{row:Option Nat}(h:w1.ownsRow w.heap.size t 1 v1 (0+k) ([]++m.map limb))(hk:m.length=k)(hm:Lt32 m)
    (hB:Below w.heap.size w wb) (hg:wb.grownBy w1 row) (hr:∀ j,row=some j->w.heap.size<=j) (hP:P m):OutL w P (.returned v1) w1:=by
 have h2:OwnL t w1 w.heap.size v1 ([]++m):=OwnL.append (l:=[]) rfl hk.symm h Lt32.nil hm;rw[Qw]at h2;obtain⟨A,c,rfl,hL⟩:=h2.lim;exact⟨A,_,c,m,rfl,hL,hP,hB.grown hg hB.size hr⟩
theorem Zg{B:Nat}{a w:World}(h:Below B a w)(n:Nat):Below B a (w.drewN n):=⟨h.os,h.tape,h.output,h.size,h.block⟩
theorem Zbo(w:World)(x:Value)(t:TypeId):Reads (w.alloc (.cells #[x] t)) (w.heap.size+1) 1 (some ⟨w.heap.size,0,none⟩) 1 [x]:=
 ⟨rfl,λ_=>⟨_,rfl,Nat.lt_succ_self _,λj u hu=>by
  cases j with
  | zero =>
   simp at hu;subst hu;exact(Blk.new w t #[x]).cell 0
  | succ j=>simp at hu⟩⟩
theorem OwnL.snoc{t:TypeId}{w':World}{base:Nat}{v':Value}{l:List Nat}{n:Nat}{X:Int}{s:Nat}(hn:n=l.length)(h:w'.ownsRow base t 1 v' (n+1) (l.map limb ++ [.int .u32 X]))(hl:Lt32 l)(hX:X=s)(hs:s<4294967296):OwnL t w' base v' (l ++ [s]):=by
 subst hX;exact OwnL.append (m:=[s]) hn rfl h hl (Lt32.cons hs Lt32.nil)
theorem Zeb(l:List Nat)(x:Nat):val (l ++ [x])=val l+pw l.length*x:=by rw[Zh6];simp[val]
theorem OutL.of_own{t:TypeId}{w w1:World}{v1:Value}{m:List Nat}{P:List Nat->Prop}(h:OwnL t w1 w.heap.size v1 m)(hB:Below w.heap.size w w1)(hP:P m):OutL w P (.returned v1) w1:=by
 obtain⟨A,c,rfl,hL⟩:=h.lim;exact⟨A,_,c,m,rfl,hL,hP,hB⟩
theorem OwnL.mut{t:TypeId}{w:World}{base:Nat}{v:Value}{l:List Nat}(h:OwnL t w base v l)(hn:0<l.length):∃ g cap,v=.slice (some ⟨g,0,none⟩) l.length cap/\base<=g/\g<w.heap.size/\l.length<=cap/\cap<=maxLen/\MutL w g 0 l:=by
 rcases h.1.2 with ⟨hv,h0⟩|⟨g,cap,cur,hv,hg,hh,e,f,o,ht⟩;omega;refine⟨g,cap,hv,hg,(Array.getElem?_eq_some_iff.1 hh).1,e,f,λk hk=>⟨?_,?_⟩⟩
 ·rw[Qv,cell_of_row w g k cur t (0,0) hh]
  have h3:(cur.toList.take (l.length*1))[k]?=(l.map limb)[k]?:=by rw[ht]
  exact Fx
 rw[Qv];unfold World.frozen?;rw[hh];simp
def Zrk(w:World)(l:List Nat)(e:Ending)(w':World):Prop:=
 ∃ v,e=.returned v/\OwnL 143 w' w.heap.size v l/\Below w.heap.size w w'
theorem FD{G:Prop}(h:G:=by
 exact⟨v1,rfl,h2,((Below.refl _ _).alloc (Nat.le_refl _) _).grown bM Gh (λj hj=>by simp[Value.ownBlock]at hj;omega)⟩):G:=h
theorem Zmu(a:Addr)(n c:Nat)(l:List Nat)(w:World)(h:Reads w w.heap.size 1 (some a) n (l.map limb))(hl:l.length=n)(hlt:Lt32 l)(hn9:n<=1000000000)(hnc:n<=c)(hcm:c<=maxLen) :
    Calls Tryz.prog 105 #[.slice (some a) n c] w (Zrk w l):=by
 obtain⟨i0,hi,o,u,f⟩:=info_parts Zdc;unfold maxLen at hcm;replace hl:=Zb hl;have E:∀ W,(binOp BinOp.eql 28 (.slice (some a) n c) (.slice none 0 0)).run Tryz.prog W=.ok (.bool false) W:=λ_=>by kernel_rfl
 go_in;go_wp2_with (go_loud (at_builtin;refine Zp _ rfl (.tmp 5) (.tmp 6) 28 rfl w.heap.size 143 i0 _ 1 4 Tryz.underlying28 hi o u f rfl Gk (.slice (some ⟨w.heap.size,0,none⟩) 0 0) 0 [] rfl (Zhh _ _ _) _ (some a) n c (l.map limb) rfl (by exact h.alloc (Qb _) _) (Zd5 _) (by simp only[maxLen];omega) Gk Gh ?_;intro v1 w1 e bM C));go_ret;have h2:OwnL 143 w1 w.heap.size v1 ([]++l):=OwnL.append (l:=[]) rfl hl.out.symm e Lt32.nil hlt;exact FD
theorem Zq6(c:Nat)(w:World):Calls Tryz.prog 105 #[.slice none 0 c] w (Zrk w []):=by
 have e:∀ W,(binOp BinOp.eql 28 (.slice none 0 c) (.slice none 0 0)).run Tryz.prog W=.ok (.bool true) W:=λ_=>by kernel_rfl
 go_in
 go_wp2
 go_ret;exact⟨_,rfl,OwnL.nil _ _ _,Qu _ _⟩
theorem IX{G:Prop}(h:G:=by
 rcases Nat.eq_zero_or_pos n with h0|h0;exact h0;obtain⟨b,o,e,_⟩:=h.2.2.2.2 h0;cases e):G:=h
theorem Zg4(A:Option Addr)(n c:Nat)(l:List Nat)(w:World)(h:Lim w A n c l)(hn9:n<=1000000000) :
    Calls Tryz.prog 105 #[.slice A n c] w (Zrk w l):=by
 rcases A with _|a
 ·have hn:n=0:=by
    exact IX
  subst hn;obtain rfl:l=[]:=Qi h.len;exact Zq6 c w
 exact Zmu a n c l w h.reads h.len h.lt hn9 h.2.1 h.2.2.1
theorem Znf(x y d:Nat)(w:World)(hx:x<d)(hy:y<4294967296)(hd:d<4294967296) :
    Calls Tryz.prog 157 #[limb x,limb y,limb d] w λe w'=>e=.returned (.tuple #[limb ((x*4294967296+y)/d),limb ((x*4294967296+y)%d)])/\w'=w.drew:=by
 have d1:((d:Int) == 0)=false:=by simp;omega
 have d2:decide ((d:Int)<=(x:Int))=false:=by simp;omega
 have d3:(d:Int)≠0:=Gk;have h:decide (d<=x)=false:=by simp;omega
 obtain⟨t,ht⟩:=Gz (x*4294967296+y)
 have f:bits .or .u64 ((x:Int)*4294967296) (y:Int)=(t:Int):=by
  have h1:((x:Int)*4294967296)=((4294967296*x:Nat):Int):=Gk;rw[h1,u64_or_nat _ _ Gk Gk];have h2:=Qy (i:=32) (b:=y) Gk x;rw[show (2:Nat)^32=4294967296 by rfl]at h2;rw[<- h2];omega
 have hq:t/d<4294967296:=by rw[Qj Gk];have:=Qf 4294967296 (show x+1<=d by omega);omega
 have hr:t%d<d:=Yc _ Gk;have o:t<18446744073709551616:=Gk;rw[ht];replace ht:=Zb ht;go_in;go_wp2_with fail
 go_region
 have e1:IntKind.u64.wrap ((t:Int)/(d:Int))%4294967296=((t/d:Nat):Int):=by
  rw[show (t:Int)/(d:Int)=((t/d:Nat):Int) from rfl];generalize t/d=z at *;simp only[Yf];omega
 go_wp2_with fail
 go_ret2
 exact⟨Zht e1 rfl,rfl⟩
theorem Zbn{l:List Nat}{k:Nat}(h:k<l.length):val (l.drop k)=l[k]?.getD 0+4294967296*val (l.drop (k+1)):=by
 rw[Yd h,val,Qa h];rfl
theorem Znp{U V q R:Nat}(h:R+q*V=U)(hR:R<V):q=U/V/\R=U%V:=by
 subst h;have hV:0<V:=Gk;constructor;rw[Nat.add_mul_div_right _ _ hV,Nat.div_eq_of_lt hR,Qv];rw[QW,Nat.mod_eq_of_lt hR]
theorem Zm0{U V q W:Nat}(hV:0<V)(h:W+q*V=U)(hq:U/V<=q):q=U/V/\W=U%V:=by
 have h1:q<=U/V:=by rw[Ym hV];omega
 have h2:q=U/V:=Gk;refine⟨h2,?_⟩;have h3:=QR U V;rw[<- h2,Qp V q]at h3;omega
theorem Zlp{U V q W M:Nat}(hV:0<V)(h:W+q*V=U+M)(hW:W<M):U/V<q:=by
 rw[Qj hV];omega
theorem Zmm{out l:List Nat}{k D r q r':Nat}(ho:k<out.length)(hl:k<l.length)(hI:val (out.drop (k+1))*D+r=val (l.drop (k+1)))(he:q*D+r'=r*4294967296+l[k]?.getD 0) :
    val ((out.set k q).drop k)*D+r'=val (l.drop k):=by
 rw[Zbn (l:=out.set k q) (by rw[Qg];exact ho),Zjm _ ho,List.drop_set_of_lt Gk,Zbn hl,Nat.add_mul,<- hI,Qm,QM];omega
theorem Zvi{r:List Nat}{i s:Nat}(hs:s<=32)(hi:i<r.length)(hlt:Lt32 r) :
    val (r.drop i)/2^s=(r[i]?.getD 0+4294967296*r[i+1]?.getD 0)/2^s%4294967296+4294967296*(val (r.drop (i+1))/2^s):=by
 have hp:0<2^s:=QD Gk;have e1:val (r.drop i)=r[i]?.getD 0+4294967296*val (r.drop (i+1)):=Zbn hi
 obtain⟨t,e2⟩:∃ t,val (r.drop (i+1))=r[i+1]?.getD 0+4294967296*t:=by
  rcases Ql (i+1) r.length with h|h;exact⟨_,Zbn h⟩;exact⟨0,by rw[Qe h,getD_none h];rfl⟩
 have hx:=hlt.get i;have hq:(4294967296:Nat)=2^s*2^(32-s):=by rw[<- Nat.pow_add,show s+(32-s)=32 by omega]
 have hb:4294967296*(val (r.drop (i+1))/2^s)=4294967296*(val (r.drop i)/2^s/4294967296):=by
  congr 1;rw[Yl,Qp (2^s),<- Yl,e1];congr 1;omega
 have ha:(r[i]?.getD 0+4294967296*r[i+1]?.getD 0)/2^s%4294967296=val (r.drop i)/2^s%4294967296:=by
  rw[e1,e2]
  have:r[i]?.getD 0+4294967296*(r[i+1]?.getD 0+4294967296*t)=(r[i]?.getD 0+4294967296*r[i+1]?.getD 0)+2^s*(2^(32-s)*t*4294967296):=by
   have:2^s*(2^(32-s)*t*4294967296)=(2^s*2^(32-s))*t*4294967296:=by grind
   rw[this,<- hq];omega
  rw[this,Nat.add_mul_div_left _ _ hp,QW]
 rw[ha,hb];omega
def splice(u:List Nat)(k:Nat)(l:List Nat):List Nat:=u.take k++l++u.drop (k+l.length)
theorem Zd9{u l:List Nat}{k:Nat}(h:k+l.length<=u.length):(splice u k l).length=u.length:=by
 unfold splice;simp;omega
theorem Zuj{u l:List Nat}{k:Nat}(hu:Lt32 u)(hl:Lt32 l):Lt32 (splice u k l):=((hu.take _).append hl).append (hu.drop _)
theorem Zml{u l:List Nat}{k i:Nat}(h:k+l.length<=u.length)(hi:i<l.length):(splice u k l)[k+i]?.getD 0=l[i]?.getD 0:=by
 unfold splice;rw[Ye Gg,QX Gg,Qk,Qs Gk,show k+i-k=i by omega]
theorem Zlm{u l:List Nat}{k j:Nat}(h:k+l.length<=u.length)(hj:j<k \/ k+l.length<=j):(splice u k l)[j]?.getD 0=u[j]?.getD 0:=by
 unfold splice;rcases hj with hj|hj;rw[Yb,Ye Gg,QG,Gx hj];rw[QX Gg,QT];congr 2;simp;omega
def DivI(A V n:Nat)(u q:List Nat)(j:Nat):Prop:=
 Lt32 u/\Lt32 q/\u.length=q.length+n/\j<=q.length/\val u+V*val q=A/\val (u.drop j)<V/\∀ i,i<j->q[i]?.getD 0=0
theorem DivI.win{A V n:Nat}{u q:List Nat}{k:Nat}(h:DivI A V n u q (k+1))(hV:V<=pw n):val ((u.drop k).take (n+1))=val (u.drop k)/\val (u.drop k)<4294967296*V:=by
 obtain⟨h1,h2,h3,h4,h5,h6,h7⟩:=h;have e:=Zbn (l:=u) (k:=k) Gk;have hx:=h1.get k;have f:val (u.drop k)<4294967296*V:=Gk;refine⟨?_,f⟩;have e2:=Zaa (u.drop k) (n+1) Gg;rcases Qh (val ((u.drop k).drop (n+1)))with h0|h0;rw[h0]at e2;omega;have:=Qf (pw (n+1)) h0;rw[Zbh]at this e2;have:=Qf 4294967296 hV;omega
theorem DivI.step{A V n:Nat}{u q l:List Nat}{k Q:Nat}(h:DivI A V n u q (k+1))(hV:V<=pw n)(hll:l.length=n+1)(hl:Lt32 l)(hQ:Q<4294967296)
    (hq:Q=val ((u.drop k).take (n+1))/V) (hr:val l=val ((u.drop k).take (n+1))%V):DivI A V n (splice u k l) (q.set k Q) k:=by
 obtain⟨hw,o⟩:=h.win hV;obtain⟨h1,h2,h3,h4,h5,h6,h7⟩:=h;have f:0<V:=Gk;have hk:k+l.length<=u.length:=Gk
 have ed:(splice u k l).drop k=l++u.drop (k+l.length):=by
  unfold splice;rw[Yb,List.drop_append_of_le_length Gg,Qe Gg,Qw]
 have e0:val (u.drop (k+l.length))=0:=by
  have e2:=Zaa (u.drop k) (n+1) Gg;rw[hw,List.drop_drop,<- hll]at e2;rcases Qh (val (u.drop (k+l.length)))with h0|h0;exact h0;have:=Qf (pw l.length) h0;have:=Zdt l.length;omega
 have e:val ((splice u k l).drop k)=val l:=by rw[ed,Zh6,e0];omega
 refine⟨Zuj h1 hl,h2.set k hQ,by rw[Zd9 hk,Qg];exact h3,by rw[Qg];omega,?_,by rw[e,hr];exact Yc _ f,λi hi=>by rw[getD_set_ne _ Gk];exact h7 i Gk⟩;have e3:=Zaa (splice u k l) k (by rw[Zd9 hk];omega);have e4:=Zaa u k Gk
 have e5:(splice u k l).take k=u.take k:=by
  unfold splice;rw[Yb,List.take_append_of_le_length Gg,QL Gg]
 have e6:=Zg3 (l:=q) (k:=k) Gk Q;rw[h7 k Gk,Nat.mul_zero,Nat.add_zero]at e6;have e7:=QR (val ((u.drop k).take (n+1))) V;rw[<- hq,<- hr,hw]at e7;rw[e3,e5,e,e6,Qm];rw[e4,<- e7,Qm]at h5;have:V*(pw k*Q)=pw k*(V*Q):=by grind
 omega
theorem DivI.start{a b:List Nat}{u:List Nat}{s n:Nat}(hu:val u=2^s*val a)(hul:u.length=a.length+1)(hult:Lt32 u)(hn:n<=a.length)(halt:Lt32 a)(hb:pw (n-1)<=val b)(hn0:0<n) :
    DivI (2^s*val a) (2^s*val b) n u (Qc (a.length+1-n) 0) (a.length+1-n):=by
 refine⟨hult,Lt32.replicate _,by simp;omega,by simp,by rw[Zd8,hu];simp,?_,λi _=>Zdu _ _⟩;have e1:=Zaa u (a.length+1-n) Gk;have e2:=Zfn halt;have e3:pw a.length=pw (a.length+1-n)*pw (n-1):=by rw[<- Zja];congr 1;omega
 have hp:0<2^s:=QD Gk;have e4:2^s*val a<2^s*pw a.length:=Nat.mul_lt_mul_of_pos_left e2 hp;have e5:2^s*pw (n-1)<=2^s*val b:=Qf _ hb
 have e6:pw (a.length+1-n)*val (u.drop (a.length+1-n))<pw (a.length+1-n)*(2^s*pw (n-1)):=by
  have:pw (a.length+1-n)*(2^s*pw (n-1))=2^s*pw a.length:=by rw[e3];grind
  omega
 have:=Nat.lt_of_mul_lt_mul_left e6;omega
theorem DivI.stop{a b:Nat}{u q:List Nat}{s n:Nat}(h:DivI (2^s*a) (2^s*b) n u q 0):val q=a/b/\val u=2^s*(a%b):=by
 obtain⟨h1,h2,h3,h4,h5,h6,h7⟩:=h;rw[QI]at h6;have hp:0<2^s:=QD Gk;obtain⟨e1,e2⟩:=Znp (U:=2^s*a) (V:=2^s*b) (q:=val q) (R:=val u) (by rw[Qp (val q)];exact h5) h6;rw[Nat.mul_div_mul_left _ _ hp]at e1;rw[Nat.mul_mod_mul_left]at e2;exact⟨e1,e2⟩
theorem Ze4{v:Nat}(h:0<(digits v).length):(digits v)[(digits v).length-1]?.getD 0≠0:=by
 intro h0;have h1:=Zge v;rw[QF]at h1;rw[Qa Gk]at h1 h0;simp at h0;rw[h0]at h1;exact h1 rfl
theorem Zn3{v:List Nat}{n:Nat}(hn:v.length=n)(h0:0<n):v[n-1]?.getD 0*pw (n-1)<=val v:=by
 have e:=Zaa v (n-1) Gk;rw[Zbn Gk]at e;rw[Qm]at e;rw[Qp];omega
theorem Zsf{u:List Nat}{n:Nat}(hn:u.length=n+1)(h0:0<n)(hlt:Lt32 u):val u<(u[n]?.getD 0*4294967296+u[n-1]?.getD 0+1)*pw (n-1):=by
 have e:=Zaa u (n-1) Gk;rw[Zbn Gk,show n-1+1=n by omega,Zbn Gk,Qe Gk]at e;have h1:=Zfn (hlt.take (n-1));rw[Qk,Qs Gk]at h1;rw[e];simp only[val];have:(u[n]?.getD 0*4294967296+u[n-1]?.getD 0+1)*pw (n-1)=pw (n-1)*(u[n-1]?.getD 0+4294967296*(u[n]?.getD 0+4294967296*0))+pw (n-1):=by grind
 omega
theorem top2_le{v:List Nat}{n:Nat}(hn:v.length=n)(h0:1<n):(v[n-1]?.getD 0*4294967296+v[n-2]?.getD 0)*pw (n-2)<=val v:=by
 have e:=Zaa v (n-2) Gk;rw[Zbn Gk,show n-2+1=n-1 by omega,Zbn Gk]at e
 have:(v[n-1]?.getD 0*4294967296+v[n-2]?.getD 0)*pw (n-2)<=pw (n-2)*(v[n-2]?.getD 0+4294967296*(v[n-1]?.getD 0+4294967296*val (v.drop (n-1+1)))):=by
  rw[Qp];exact Qf _ Gk
 omega
theorem top3_lt{u:List Nat}{n:Nat}(hn:u.length=n+1)(h0:1<n)(hlt:Lt32 u):val u<((u[n]?.getD 0*4294967296+u[n-1]?.getD 0)*4294967296+u[n-2]?.getD 0+1)*pw (n-2):=by
 have e:=Zaa u (n-2) Gk;rw[Zbn Gk,show n-2+1=n-1 by omega,Zbn Gk,show n-1+1=n by omega,Zbn Gk,Qe Gk]at e;have h1:=Zfn (hlt.take (n-2));rw[Qk,Qs Gk]at h1;rw[e];simp only[val];have:((u[n]?.getD 0*4294967296+u[n-1]?.getD 0)*4294967296+u[n-2]?.getD 0+1)*pw (n-2)=pw (n-2)*(u[n-2]?.getD 0+4294967296*(u[n-1]?.getD 0+4294967296*(u[n]?.getD 0+4294967296*0)))+pw (n-2):=by grind
 omega
theorem MutL.reads{w:World}{g off:Nat}{l:List Nat}(h:MutL w g off l):Reads w w.heap.size 1 (some ⟨g,off,none⟩) l.length (l.map limb):=
 ⟨by simp,λhn=>⟨_,rfl,by have:=Zn (h 0 hn).1;exact this,λj u hu=>by
  rw[Zf]
  have hj:j<l.length:=by
   rcases Ql j l.length with h'|h';exact h';rw[Qn (by simpa using h')]at hu;cases hu
  rw[(h j hj).1];rw[Ya,Qa hj]at hu;rw[Qa hj];simpa using hu⟩⟩
theorem MutL.below{w w':World}{g off:Nat}{l:List Nat}(h:MutL w g off l)(hb:Below w.heap.size w w'):MutL w' g off l:=λj hj =>
 ⟨Za hb (h j hj).1,Zl hb (h j hj).1 (h j hj).2⟩
theorem MutL.win{w:World}{g off:Nat}{l:List Nat}(h:MutL w g off l){k n:Nat}(hk:k+n<=l.length):MutL w g (off+k) ((l.drop k).take n):=λj hj=>by
 rw[Qk,List.length_drop]at hj;have:=h (k+j) Gk;rw[QG,Gx Gk,QT,Nat.add_assoc];exact this
theorem MutL.splice{w:World}{g:Nat}{u l:List Nat}{k:Nat}(h:MutL w g 0 u)(hk:k+l.length<=u.length):MutL (w.setCells g k (l.map limb)) g 0 (splice u k l):=λj hj=>by
 rw[Zd9 hk]at hj;obtain⟨h1,h2⟩:=h j hj;rw[Qv]at h1 h2 ⊢;refine⟨?_,by rw[World.frozen?_setCells];exact h2⟩;by_cases hin:k<=j/\j<k+l.length
 ·obtain⟨i,rfl⟩:∃ i,j=k+i:=⟨j-k,by omega⟩
  rw[Zml hk Gk]
  have:=World.cell?_setCells_in g (l.map limb) k w (λi hi=>by
   rw[Qt]at hi;have:=(h (k+i) Gk).1;rw[Qv]at this;rw[this];rfl) i (by rw[Qt];omega)
  rw[this];simp[Qa (show i<l.length by omega)]
 rw[Zlm hk Gk,World.cell?_setCells_out g _ k w _ (λ_ _=>by rw[Qt];simp only[];omega)];exact h1
theorem Ztj{P:Program}{f:FuncId}{args:Array Value}{w:World}{a n:Nat}{v:Value}
    (h:Calls P f args (w.drewN (a+n)) λe w'=>e=.returned v/\∃ m,w'=(w.drewN (a+n)).drewN m) :
    Calls P f args (w.drewN (a+n)) λe w''=>e=.returned v/\∃ m,w''=w.drewN (a+m):=
 h.mono λ_ _ ⟨he,m,hm⟩=>⟨he,n+m,by rw[hm,World.drewN_drewN,Nat.add_assoc]⟩
theorem div32_q(x y d:Nat)(w:World)(hx:x<d)(hy:y<4294967296)(hd:d<4294967296) :
    Calls Tryz.prog 157 #[limb x,limb y,limb d] w λe w'=>e=.returned (.tuple #[limb ((x*4294967296+y)/d),limb ((x*4294967296+y)%d)])/\∃ m,w'=w.drewN m:=
 (Znf x y d w hx hy hd).mono λ_ _ ⟨he,hm⟩=>⟨he,1,hm⟩
def StepP(w:World)(g off:Nat)(u v:List Nat)(e:Ending)(w':World):Prop:=
 ∃ l w1,e=.returned (limb (val u/val v))/\l.length=u.length/\Lt32 l/\val l=val u%val v/\Below w.heap.size w w1/\w'=w1.setCells g off (l.map limb)
theorem Zvb(g off n c d:Nat)(B:Option Addr)(u v:List Nat)(w:World)(hu:MutL w g off u)(hul:u.length=n+1)(hut:Lt32 u)(hnc:n+1<=c)(hcm:c<=maxLen)(hn9:n<=1000000)(hn0:0<n)
    (hv:Lim w B n d v) (hlt:val u<4294967296*val v) (htop:v[n-1]?.getD 0≠0) :
    Calls Tryz.prog 140 #[.slice (some ⟨g,off,none⟩) (n+1) c,.slice B n d] w (StepP w g off u v):=by
 unfold maxLen at hcm;have e3:=hv.2.1;have b6:=hv.2.2.1;unfold maxLen at b6;have a5:=hv.len;obtain⟨bv,ov,rfl,b4⟩:=hv.at_ (k:=n-1) Gk
 have hV:0<val v:=by
  rcases Qh (val v)with h0|h0;rw[h0]at hlt;omega;exact h0
 obtain⟨q,hq⟩:=Gz (val u/val v);have d4:q<4294967296:=by rw[<- hq,Qj hV];exact hlt
 have c6:=hut.get n;have a0:=hut.get (n-1);have b2:=hv.lt.get (n-1);have a8:=hu n Gk;have a3:=hu (n-1) Gk
 have C:u[n]?.getD 0<v[n-1]?.getD 0->q<=(u[n]?.getD 0*4294967296+u[n-1]?.getD 0)/v[n-1]?.getD 0:=λ_=>by
  rw[<- hq];exact Zna Gk (Zn3 a5 hn0) (Zsf hul hn0 hut)
 have O:u[n]?.getD 0<v[n-1]?.getD 0->(u[n]?.getD 0*4294967296+u[n-1]?.getD 0)/v[n-1]?.getD 0<4294967296:=λh=>by
  rw[Qj Gk];have:=Qf 4294967296 (show u[n]?.getD 0+1<=v[n-1]?.getD 0 by omega);omega
 have HQ:=Zb hq;have f:=Zb hul;have d3:=Zb a5;clear hq hul a5;have b5:=a8.1;have a2:=a3.1;obtain⟨x,hx⟩:=Gz (u[n]?.getD 0);obtain⟨y,hy⟩:=Gz (u[n-1]?.getD 0);obtain⟨z,hz⟩:=Gz (v[n-1]?.getD 0);rw[hx]at c6 b5;rw[hy]at a0 a2;rw[hz]at b2 b4 htop;rw[hx,hy,hz]at C O;clear hx hy hz a8 a3;by_cases hc:x<z
 all_goals
  first
  | (have c0:decide (x<z)=true:=by simpa using hc)
  | (have c0:decide (x<z)=false:=by simpa using hc)
  go_in;go_wp2_with fail
  go_quiet (fail)
  go_wp2_with fail
  first
  | (go_quiet ((go_at_call 157;exact Ztj (div32_q _ _ _ _ hc a0 b2))))
  | skip
  go_wp2_with fail
  go_loopw [6] (λgv wr=>∃ gs:Nat,gv=limb gs/\q<=gs/\gs<4294967296/\Below w.heap.size w wr) (λgv _=>(intOf gv).toNat)
  case atStart=>first|exact⟨_,rfl,C hc,O hc,Zg (Zg (Qu _ _) _) _⟩|exact⟨4294967295,rfl,by omega,by omega,Zg (Qu _ _) _⟩
  case round =>
   obtain⟨gs,rfl,c2,c3,hB⟩:=hrel;clear C O b5 a2;have a6:=hu.below hB;have c7:=hv.below hB;have d6:bv<wr.heap.size:=QU (Zn b4) hB.size;have d7:g<wr.heap.size:=QU (Zn (hu 0 (by rw[f.out];omega)).1) hB.size;have b9:Reads wr wr.heap.size 1 (some ⟨g,off,none⟩) (n+1) (u.map limb):=by have:=a6.reads;rw[f.out]at this;exact this
   go_wp2_with fail;refine(Zmu ⟨g,off,none⟩ (n+1) c u _ b9 f.out hut Gk hnc (by unfold maxLen;omega)).mono ?_;rintro e w1 ⟨v1,rfl,b0,I⟩;obtain⟨g1,J,b1,d0,c9,a9,c8,b8⟩:=b0.mut (by rw[f.out];omega);rw[f.out]at b1 a9;subst b1;go_wp2_with fail;refine(Znn g1 0 n J d gs (some ⟨bv,ov,none⟩) u v _ b8 f.out hut a9 c8 Gk (c7.below I) (λb o e=>by injection e with e;injection e with e1 e2;omega) c3).mono ?_;rintro e w2 ⟨b,l,d5,rfl,c4,E,a4,hI,a7⟩;have b3:Below w.heap.size w w2:=(hB.trans (I.mono hB.size)).grown a7 (by have:=I.size;have:=hB.size;omega) (λj hj=>by injection hj with hj;have:=hB.size;omega);rcases Qh b with rfl|e0
   ·obtain⟨a1,Y⟩:=Zm0 (U:=val u) (q:=gs) (W:=val l) hV (by rw[Nat.mul_zero]at hI;exact hI) (by rw[HQ.out];exact c2)
    have b7:∀ ty,(Builtin.copy_ #[28,28] ty #[.slice (some ⟨g,off,none⟩) (n+1) c,.slice (some ⟨g1,0,none⟩) (n+1) J]).run Tryz.prog w2=.ok (goInt ((n+1:Nat):Int)) (w2.setCells g off (l.map limb)):=λty=>by
     obtain⟨i0,hi,d9,c1,d8⟩:=info_parts Zdc
     have h:=run_copy_cells (P:=Tryz.prog) w2 28 28 ty 143 g off (n+1) c ⟨g1,0,none⟩ (n+1) J (l.map limb) Tryz.underlying28 (by rw[hi];simp[c1]) (by rw[Qt,E];exact(Nat.min_self _).symm)
      (λj x hx=>by
       have hj:j<l.length:=by
        rcases Ql j l.length with h'|h';exact h';rw[Qn (by simpa using h')]at hx;cases hx
       rw[Zf,(c4 j hj).1];rw[Ya,Qa hj]at hx;rw[Qa hj];simpa using hx)
      (λj hj=>by
       rw[Qt,E]at hj;have h3:=(a6 j (by rw[f.out];exact hj)).1;have h4:=Za I h3;rw[(Yo (a:=⟨g,off+j,none⟩) (a7.block g (by have:=I.size;omega) (λe=>by injection e with e;omega))),h4];rfl)
      (λj hj=>by
       rw[Qt,E]at hj;have h3:=a6 j (by rw[f.out];exact hj);have h4:=Zl I h3.1 h3.2;rw[(World.frozen?_of_block (a:=⟨g,off+j,none⟩) (a7.block g (by have:=I.size;omega) (λe=>by injection e with e;omega))),h4])
      (Zd5 l)
     rw[Qt,E]at h;exact h
    have hP:StepP w g off u v (.returned (limb gs)) (w2.setCells g off (l.map limb)):=⟨l,w2,by rw[a1],by rw[E,f.out],a4,Y,b3,rfl⟩;replace hP:=Zb hP;clear a1 Y hI E;go_wp2_with fail;go_ret;exact hP.out
   obtain rfl:b=1:=Gk
   have c5:q<gs:=by
    have:=Zlp (q:=gs) (W:=val l) (M:=pw (n+1)) hV (by rw[Yw]at hI;exact hI) (by have:=Zfn a4;rw[E]at this;exact this);rw[HQ.out]at this;exact this
   clear hI E;go_wp2_with fail
   go_roundw
   case rel=>exact⟨gs-1,by go_num,by omega,by omega,b3⟩
   case measure=>simp[intOf];omega
open Go.RowKit Go.Shelf
attribute [local go_sem] Oper.semAt_some
def Zcz(n:Nat):Nat->List { i:Nat // i<n }
 | 0=>[]
 | k+1=>Zcz n k++(if h:k<n then [⟨n-1-k,by omega⟩]else [])
theorem Zdi{n k:Nat}(h:k<n):Zcz n (k+1)=Zcz n k ++ [⟨n-1-k,by omega⟩]:=by simp[Zcz,h]
theorem Zc6{n k:Nat}(h:k<=n):(Zcz n k).length=k:=by
 induction k with
 | zero=>rfl
 | succ k ih=>rw[Zdi Gk];simp[ih Gk]
theorem Zk8{n k:Nat}(h:k<=n)(i:{ i:Nat // i<n }):i ∈ Zcz n k ↔ n-k<=i.1:=by
 induction k with
 | zero=>simp[Zcz];omega
 | succ k ih =>
  have:=i.2;rw[Zdi Gk,List.mem_append,ih Gk,Yt,Subtype.ext_iff];simp;omega
def Zhg(l:List Nat)(n:Nat)(i:{ i:Nat // i<n }):Array Value:=#[.int .i64 (i.1:Int),limb (l[i.1]?.getD 0)]
theorem Zgd{W W':World}{row:Option Nat}{A:Option Addr}{n c:Nat}{l:List Nat}(h:Lim W A n c l)(hg:W.grownBy W' row)(hrow:∀ r,row=some r->∃ o:Obj,W.heap[r]?=some o/\o.isCells=false):Lim W' A n c l:=
 ⟨h.1,h.2.1,h.2.2.1,h.2.2.2.1,λhn=>by
  obtain⟨b,o,e,hc⟩:=h.2.2.2.2 hn;exact⟨b,o,e,λk hk=>cell_kept (hc k hk) hg hrow⟩⟩
def KpD(Bs:Nat)(A:Option Addr)(n c:Nat)(l:List Nat)(W W':World):Prop:=
 (W.cell? ⟨Bs,0,none⟩=some (.slice A n c)->W'.cell? ⟨Bs,0,none⟩=some (.slice A n c))/\(Lim W A n c l->Lim W' A n c l)
theorem KpD.refl(Bs:Nat)(A:Option Addr)(n c:Nat)(l:List Nat)(W:World):KpD Bs A n c l W W:=⟨id,id⟩
theorem KpD.trans{Bs n c:Nat}{A:Option Addr}{l:List Nat}{W1 W2 W3:World}(h:KpD Bs A n c l W1 W2)(k:KpD Bs A n c l W2 W3):KpD Bs A n c l W1 W3:=⟨λx=>k.1 (h.1 x),λx=>k.2 (h.2 x)⟩
theorem KpD.put{Bs n c:Nat}{A:Option Addr}{l:List Nat}(W:World)(lp:Nat)(o o':Obj)(ho:W.heap[lp]?=some o)(hc:o.isCells=false):KpD Bs A n c l W (W.putObj lp o'):=
 ⟨λh=>cell_kept h (grownBy_putObj' W lp o') (λr e=>by cases e;exact⟨o,ho,hc⟩),λh=>Zgd h (grownBy_putObj' W lp o') (λr e=>by cases e;exact⟨o,ho,hc⟩)⟩
theorem KpD.set_{Bs n c:Nat}{A:Option Addr}{l:List Nat}{w W:World}{g o:Nat}(hL:Lim w A n c l)(hg:w.heap.size<=g)(hB:g≠Bs)(u:Value):KpD Bs A n c l W (W.setCell ⟨g,o,none⟩ u):=
 ⟨λh=>(Qd W _ _ u (λe=>hB (by cases e;rfl))).trans h,λh=>⟨h.1,h.2.1,h.2.2.1,h.2.2.2.1,λhn=>by
  obtain⟨b,o',e,hc⟩:=h.2.2.2.2 hn;obtain⟨b1,o1,e1,C⟩:=hL.2.2.2.2 hn;rw[e]at e1;cases e1;have f:=Zn (C 0 hn);exact⟨b,o',e,λk hk=>(Qd W _ _ u (λe2=>by cases e2;simp at f;omega)).trans (hc k hk)⟩⟩⟩
theorem Zwk(d:Nat)(hd:1<=d)(lp Bs n c:Nat)(A:Option Addr)(l:List Nat)(J Jx:List { i:Nat // i<n }->World->Prop)
    (hY:∀ pre x W,J pre W->pre.length<n->YieldAt Fence.wide (d-1) Tryz.prog lp (Zhg l n x) W λe W' =>
     (e=.returned (.bool true)/\J (pre ++ [x]) W'/\KpD Bs A n c l W W') \/ (e=.returned (.bool false)/\Jx (pre ++ [x]) W'))
    (W:World) (hBs:W.cell? ⟨Bs,0,none⟩=some (.slice A n c)) (hL:Lim W A n c l) (h0:J [] W) :
    CallsIn Fence.wide d Tryz.prog 162 #[.func (.yield lp) #[] #[],.pointer (some ⟨Bs,0,none⟩)] W λe W'=>(∃ v,e=.returned v) /\
     ((∃ ys,ys=Zcz n n/\J ys W') \/ (∃ pre,(∃ k,k<=n/\pre=Zcz n k)/\Jx pre W')):=by
 have Y:=hL.2.1;have U:=hL.2.2.1;unfold maxLen at U;refine callsIn_of_wp Tryz.func162 rfl trivial ?_ rfl;simp only[Tryz.ntmps162,QJ,Qq,Qx,QY,QZ,QB,QC,QK,QE,Qw,QA]
 gi_wp2
 gi_loopw [3] (λi wr=>∃ k:Nat,k<=n/\i=.int .i64 ((n:Int)-1-k)/\J (Zcz n k) wr/\Hid (wr.cell? ⟨Bs,0,none⟩=some (.slice A n c))/\Lim wr A n c l)
  (λi _=>(intOf i+1).toNat)
 case atStart=>exact⟨0,Qo _,by go_num,h0,hBs,hL⟩
 case round =>
  obtain⟨k,hk,rfl,u,f,E⟩:=hrel;have a1:=f.out;by_cases hlt:k<n
  ·obtain⟨b,o,rfl,a0⟩:=E.at_ (k:=n-1-k) Gk
   obtain⟨fn,tmps,assign,body,hy,hR⟩:=hY _ ⟨n-1-k,by omega⟩ wr u (by rw[Zc6 hk];exact hlt);dsimp only[Zhg]at hy;rw[show ((n-1-k:Nat):Int)=(n:Int)-1-k by omega]at hy
   gi_wp2
   refine hR.mono ?_;rintro e W3 (⟨rfl,O,C⟩|⟨rfl,h⟩)
   ·have I:=Zb (C.1 f.out)
    gi_wp2
    go_roundw
    case rel=>exact⟨k+1,by omega,by go_num,by rw[Zdi hlt];exact O,I,C.2 E⟩
    case measure=>simp[intOf];omega
   gi_wp2
   refine bodyPost_ret (results_none rfl _ _ _) rfl ?_;exact⟨⟨_,rfl⟩,.inr ⟨_,⟨k+1,by omega,(Zdi hlt).symm⟩,h⟩⟩
  obtain rfl:k=n:=Gk
  gi_wp2
  go_end0
  exact⟨⟨_,rfl⟩,.inl ⟨_,rfl,u⟩⟩
theorem Zh0(d:Nat)(hd:1<=d)(Bs n c:Nat)(A:Option Addr)(l:List Nat)(w:World)(hc:w.cell? ⟨Bs,0,none⟩=some (.slice A n c))(hL:Lim w A n c l) :
    SeqStopsK Fence.wide d Tryz.prog 162 #[.pointer (some ⟨Bs,0,none⟩)] (Zhg l n) (KpD Bs A n c l) (λys=>ys=Zcz n n) (λpre=>∃ k,k<=n/\pre=Zcz n k) n w:=λlp J Jx W hW _ _ hY h0 =>
 Zwk d hd lp Bs n c A l J Jx hY W ((hW.cell (Zn hc)).trans hc) (hL.below hW) h0
theorem Zku(A:Option Addr)(n c:Nat)(w:World) :
    Calls Tryz.prog 142 #[.slice A n c] w λe w'=>e=.returned (.func (.func 162) #[] #[.pointer (some ⟨w.heap.size,0,none⟩)])/\w.alloc (.cells #[.slice A n c] 28)=w':=by
 go_in
 go_wp2
 go_ret;exact⟨rfl,rfl⟩
def Zch(a b:List Nat):Int:=if a.length<b.length then -1 else if b.length<a.length then 1 else if val a<val b then -1 else if val b<val a then 1 else 0
theorem Zl7{l:List Nat}{k:Nat}(h:k<l.length):val (l.drop k)=l[k]?.getD 0+4294967296*val (l.drop (k+1)):=by
 rw[Yd h,val,Qa h];rfl
theorem Zj6{a b:List Nat}{n k:Nat}(ha:a.length=n)(hb:b.length=n)(hla:Lt32 a)(hk:k<n)(he:∀ j,k<j->j<n->a[j]?.getD 0=b[j]?.getD 0)(hlt:a[k]?.getD 0<b[k]?.getD 0):val a<val b:=by
 have h1:∀ m,k<n-m->m<=n->val (a.drop (n-m))=val (b.drop (n-m)):=by
  intro m
  induction m with
  | zero=>intro _ _;rw[Yu,Qe Gk,Qe Gk]
  | succ m ih =>
   intro h h';rw[Zl7 (l:=a) Gk,Zl7 (l:=b) Gk,he _ h Gk,show n-(m+1)+1=n-m by omega,ih Gk Gk]
 have h2:val (a.drop (k+1))=val (b.drop (k+1)):=by
  rcases Ql (k+1) n with h|h
  ·have:=h1 (n-(k+1)) Gk Gk
   rwa [show n-(n-(k+1))=k+1 by omega]at this
  rw[Qe Gk,Qe Gk]
 have h3:=Zaa a k Gk;have h4:=Zaa b k Gk;rw[Zl7 Gk]at h3 h4;have h5:=Zfn (hla.take k);rw[Qk,Qs Gk]at h5;rw[h3,h4,h2];generalize val (b.drop (k+1))=t;have:pw k*(a[k]?.getD 0+4294967296*t+1)<=pw k*(b[k]?.getD 0+4294967296*t):=Qf _ Gk;rw[Qm,Yw]at this;omega
theorem Zv3{a b:List Nat}{n:Nat}(ha:a.length=n)(hb:b.length=n)(he:∀ j,j<n->a[j]?.getD 0=b[j]?.getD 0):a=b:=by
 apply List.ext_getElem Gk;intro i h1 h2;have:=he i Gk
 rwa [Qa h1,Qa h2]at this
theorem Zmr(a:List Nat):Zch a a=0:=by simp[Zch]
theorem IM{G:Prop}(h:G:=by
 rw[hr];go_in
 go_wp2
 go_returns;exact⟨rfl,by go_grown⟩):G:=h
theorem IQ{G:Prop}(h:G:=by
 intro l x W K hK;dsimp only[Zhg]
 gi_wp2
 exact hK):G:=h
theorem Zcj(A B:Option Addr)(n c m d:Nat)(a b:List Nat)(w:World)(ha:Lim w A n c a)(hb:Lim w B m d b) :
    Calls Tryz.prog 107 #[.slice A n c,.slice B m d] w λe w'=>e=.returned (.int .i64 (Zch a b))/\Below w.heap.size w w':=by
 have a5:=ha.2.1;have a6:=hb.2.1;have a0:=ha.2.2.1;have a2:=hb.2.2.1;unfold maxLen at a0 a2;by_cases h1:n<m
 ·have u:(((n:Nat):Int) != m)=true:=by simp;omega
  have hd:decide (n<m)=true:=by simpa using h1
  have hr:Zch a b=-1:=by unfold Zch;rw[ha.len,hb.len,Gx h1]
  exact IM
 by_cases h2:m<n
 ·have u:(((n:Nat):Int) != m)=true:=by simp;omega
  have hd:decide (n<m)=false:=by simpa using h1
  have hr:Zch a b=1:=by unfold Zch;rw[ha.len,hb.len,Gw h1,Gx h2]
  exact IM
 obtain rfl:n=m:=Gk;have u:(((n:Nat):Int) != n)=false:=Gh;have h9:1<=9:=Gk;refine(callsIn_wide (n:=9)).1 ?_;refine callsIn_of_wp_marks Tryz.func107 rfl trivial ?_ rfl;simp only[Tryz.ntmps107,QJ,Qq,Qx,QY,QZ,QB,QC,QK,QE,Qw,QA]
 gi_wp2_with (refine⟨trivial,?_⟩;gi_at_call 142;refine(callsIn_wide.2 (Zku _ _ _ _)).mono ?_;rintro e w' ⟨rfl,rfl⟩)
 have bB:=Boxed.new w 28 (.slice B n d);have bR:=Boxed.new (w.alloc (.cells #[.slice B n d] 28)) 3 (.int .i64 0);have bN:=Boxed.new ((w.alloc (.cells #[.slice B n d] 28)).alloc (.cells #[.int .i64 0] 3)) 28 (.slice A n c);simp only[Yg]at bR bN;have J:Below w.heap.size w (((w.alloc (.cells #[.slice B n d] 28)).alloc (.cells #[.int .i64 0] 3)).alloc (.cells #[.slice A n c] 28)):=by go_grown
 refine wpIn_rangeFunc_ownF rfl h9 (gf:=162) (lb:=#[.pointer (some ⟨w.heap.size+1+1,0,none⟩)]) rfl trivial (enters_of Tryz.func162 Gj rfl)
  (Zh0 8 Gk (w.heap.size+1+1) n c A a _ bN.cell (ha.below J)) KpD.trans (λW l o o' _ h hc _=>KpD.put W l o o' h hc) (Qu _ _) (λ_=>rfl)
  (λpre W=>((∀ p ∈ pre,a[p.1]?.getD 0=b[p.1]?.getD 0)/\W.cell? ⟨w.heap.size,0,none⟩=some (.slice B n d)/\W.cell? ⟨w.heap.size+1,0,none⟩=some (.int .i64 0)/\W.frozen? ⟨w.heap.size+1,0,none⟩=false)/\Below w.heap.size w W)
  (λcc pre W=>(cc=.ret/\∃ ini last,pre=ini ++ [last]/\(∀ p ∈ ini,a[p.1]?.getD 0=b[p.1]?.getD 0) /\
   ((a[last.1]?.getD 0<b[last.1]?.getD 0/\W.cell? ⟨w.heap.size+1,0,none⟩=some (.int .i64 (-1))) \/ (b[last.1]?.getD 0<a[last.1]?.getD 0/\W.cell? ⟨w.heap.size+1,0,none⟩=some (.int .i64 1))))/\Below w.heap.size w W)
  (OwnFrom.and (Own.from (λs X Y row hs hg hr=>⟨hs.1,cell_kept hs.2.1 hg hr,cell_kept hs.2.2.1 hg hr,(frozen_kept hs.2.2.1 hg hr).trans hs.2.2.2⟩) _) (ownFrom_below (Qb _) Gg))
  (λcc=>OwnFrom.and (Own.from (λs X Y row hs hg hr=>by
   obtain⟨hc,ini,last,e1,e2,e3⟩:=hs;refine⟨hc,ini,last,e1,e2,?_⟩;rcases e3 with ⟨e3,e4⟩|⟨e3,e4⟩;exact .inl ⟨e3,cell_kept e4 hg hr⟩;exact .inr ⟨e3,cell_kept e4 hg hr⟩) _) (ownFrom_below (Qb _) Gg))
  ⟨⟨by simp,((bB.alloc _).alloc _).cell,(bR.alloc _).cell,(bR.alloc _).frozen⟩,J⟩
  (λx=>{ tmps:=#[.slice A n c,.slice B n d,undef,.pointer (some ⟨w.heap.size,0,none⟩),.pointer (some ⟨w.heap.size+1,0,none⟩),.int .i64 (x.1:Int),limb (a[x.1]?.getD 0),.slice A n c,
   .int .i64 n,.slice B n d,.int .i64 n,.bool false,undef,undef,undef,undef,undef,.slice A n c,.func (.func 162) #[] #[.pointer (some ⟨w.heap.size+1+1,0,none⟩)],.int .i64 (x.1:Int),limb (a[x.1]?.getD 0),
   undef,undef,undef,undef,undef,undef,undef,undef,undef,undef,undef,undef],defers:=[] }) ?assign ?body ?done ?stop
 case assign =>
  exact IQ
 case body =>
  rintro l pre x W ⟨⟨hp,O,f,I⟩,hB⟩ _;obtain⟨i,hi⟩:=x;obtain⟨bb,ob,rfl,a4⟩:=(hb.below hB).at_ hi;by_cases t1:a[i]?.getD 0<b[i]?.getD 0
  ·have a3:decide (a[i]?.getD 0<b[i]?.getD 0)=true:=by simpa using t1
   gi_wp2
   exact⟨KeepsOthers.setCell _ _ _,⟨rfl,pre,⟨i,hi⟩,rfl,hp,.inl ⟨t1,World.cell?_setCell_same' _ _ _ (by rw[f];rfl)⟩⟩,hB.setCell (p:=⟨w.heap.size+1,0,none⟩) Gh _⟩
  have a3:decide (a[i]?.getD 0<b[i]?.getD 0)=false:=by simpa using t1
  by_cases t2:b[i]?.getD 0<a[i]?.getD 0
  ·have U:decide (b[i]?.getD 0<a[i]?.getD 0)=true:=by simpa using t2
   gi_wp2
   exact⟨KeepsOthers.setCell _ _ _,⟨rfl,pre,⟨i,hi⟩,rfl,hp,.inr ⟨t2,World.cell?_setCell_same' _ _ _ (by rw[f];rfl)⟩⟩,hB.setCell (p:=⟨w.heap.size+1,0,none⟩) Gh _⟩
  have U:decide (b[i]?.getD 0<a[i]?.getD 0)=false:=by simpa using t2
  gi_wp2
  exact⟨KeepsOthers.refl _,KpD.refl _ _ _ _ _ _,⟨λp hp'=>(List.mem_append.1 hp').elim (hp p) (λe=>by simp at e;subst e;simp;omega),O,f,I⟩,hB⟩
 case done =>
  rintro D ys W hD rfl ⟨⟨u,O,f,I⟩,hB⟩ hK;have a1:a=b:=Zv3 ha.len hb.len (λj hj=>u ⟨j,hj⟩ ((Zk8 (Qb _) _).2 Gh))
  gi_wp2
  have E:=(KeepsOthers.setCell W ⟨w.heap.size+1,0,none⟩ (.int .i64 0)).same D _ hK rfl;refine⟨by simp,.inl ⟨_,_,rfl,run_takeDeferred E,?_⟩⟩;have C:=cell_kept (World.cell?_setCell_same' W ⟨w.heap.size+1,0,none⟩ (.int .i64 0) (by rw[f];rfl)) (grownBy_putObj' _ D (.deferred none)) (λr e=>by cases e;exact⟨_,E,rfl⟩);refine⟨.int .i64 0,?_,by rw[a1,Zmr],(hB.setCell (p:=⟨w.heap.size+1,0,none⟩) Gh _).trans (belowK_b (w:=w) (Qb _) _ D _ _ (by simp at hD;omega) E rfl rfl)⟩;simp[results,Tryz.f107,go_sem,C]
 case stop =>
  rintro D cc pre W hD ⟨k,hk,rfl⟩ ⟨⟨rfl,ini,last,e1,e2,e3⟩,hB⟩ hK
  obtain⟨k',rfl⟩:∃ k',k=k'+1:=by
   cases k with
   | zero=>simp[Zcz]at e1
   | succ k'=>exact⟨k',rfl⟩
  rw[Zdi Gk]at e1;obtain⟨rfl,e5⟩:=Yy e1 rfl
  have e6:last.1=n-1-k':=by
   have:=congrArg (List.map (λz:{ i:Nat // i<n }=>z.1)) e5;simpa using this.symm
  rw[e6]at e3;have he:∀ j,n-1-k'<j->j<n->a[j]?.getD 0=b[j]?.getD 0:=λj hj hj'=>e2 ⟨j,hj'⟩ ((Zk8 Gk _).2 Gg)
  obtain⟨r,f,hr⟩:∃ r:Int,W.cell? ⟨w.heap.size+1,0,none⟩=some (.int .i64 r)/\Zch a b=r:=by
   rcases e3 with ⟨e3,e4⟩|⟨e3,e4⟩
   ·have:=Zj6 ha.len hb.len ha.lt Gk he e3
    exact⟨_,e4,by unfold Zch;rw[ha.len,hb.len];simp[this]⟩
   have:=Zj6 hb.len ha.len hb.lt Gk (λj h h'=>(he j h h').symm) e3;exact⟨_,e4,by unfold Zch;rw[ha.len,hb.len];simp[this];omega⟩
  gi_wp2
  refine⟨by simp,.inl ⟨_,_,rfl,run_takeDeferred hK,?_⟩⟩;have C:=cell_kept f (grownBy_putObj' _ D (.deferred none)) (λr e=>by cases e;exact⟨_,hK,rfl⟩);refine⟨.int .i64 r,?_,by rw[hr],hB.trans (belowK_b (w:=w) (Qb _) W D _ _ (by simp at hD;omega) hK rfl rfl)⟩;simp[results,Tryz.f107,go_sem,C]
def OnlyNormal(Q:Exit->Act->World->Prop):Exit->Act->World->Prop
 | .normal,a,w=>Q .normal a w
 | _,_,_=>False
theorem OnlyNormal.no_out{Q:Exit->Act->World->Prop}(h:LetsOut (OnlyNormal Q)):False:=by
 obtain⟨a,w,h⟩:=h;exact h
theorem OnlyNormal.normal{Q:Exit->Act->World->Prop}{a:Act}{w:World}(h:Q .normal a w):OnlyNormal Q .normal a w:=h
theorem Zbx{l n:Nat}{P:Program}{ops:Array Oper}{Q:Exit->Act->World->Prop}(hnd:∀ (i:Nat) (o:Oper),ops[i]?=some o->∀ c,o.op ≠ .defer c) :
    ∀ (is:List Nat) (a:Act) (w:World),wpOps P ops (OnlyNormal Q) is a w->wpOpsIn (Fence.wide.inRound l) n P ops Q is a w
 | [],_,_,h=>h
 | i::rest,a,w,h=>by
  simp only[wpOps]at h;simp only[wpOpsIn];cases ho:ops[i]? with
  | none=>simp only[ho]at h ⊢;exact Zbx hnd rest a w h
  | some o =>
   simp only[ho]at h ⊢;by_cases hw:Region.wanted o (yielded ops a.tmps)=true
   ·simp only[hw,if_true]at h ⊢
    rcases h with h|⟨_,h⟩
    ·refine⟨λ_ _=>trivial,?_⟩
     rw[Oper.semAt_eq _ _ _ (hnd i o ho)];unfold Oper.wp at h;generalize (execOp a.eval o).run P w=r at *;cases r with
     | ok x w' =>
      cases x with
      | value v=>exact Zbx hnd rest _ _ h
      | skip=>exact Zbx hnd rest _ _ h
      | defer d=>exact Zbx hnd rest _ _ h
      | enter f args =>
       refine⟨(λh=>by cases h),CallsIn.inRound l (callsIn_wide.2 (Calls.mono h λe w'' he=>?_))⟩;cases e with
       | returned v=>exact Zbx hnd rest _ _ he
       | panicked c=>exact(he:False).elim
       | outgrown=>exact(OnlyNormal.no_out he).elim
      | row row args =>
       refine⟨(λh=>by cases h),λc cs _=>?_⟩;obtain⟨v,w'',hR,hs⟩:=h c cs;exact⟨v,w'',Zbx hnd rest _ _ hR,stepsIn_wide.2 hs⟩
      | _=>exact(h:False).elim
     | halt x w'=>cases x <;> exact(h:False).elim
    exact(OnlyNormal.no_out h).elim
   simp only[hw,if_false,Bool.false_eq_true]at h ⊢;exact⟨λ_ _=>trivial,Zbx hnd rest _ _ h⟩
def Ziw(ops:Array Oper):Bool:=ops.all λo=>match o.op with | .defer _=>false|_=>true
theorem Zmd{ops:Array Oper}(h:Ziw ops=true):∀ (i:Nat) (o:Oper),ops[i]?=some o->∀ c,o.op ≠ .defer c:=by
 intro i o ho c hc;unfold Ziw at h;rw[Array.all_eq_true]at h;obtain⟨hi,rfl⟩:=Array.getElem?_eq_some_iff.1 ho;have:=h i hi;rw[hc]at this;cases this
def Zb4(L:List Nat)(listed:Array Bool):Bool:=L.all λk=>!(listed.getD k true)
def Zu(P:Program)(md:Region.Mode)(ops:Array Oper)(Q:Exit->Act->World->Prop)(L:List Nat)(S:World->Prop):Nat->Array Bool->Act->World->Prop
 | 0,listed,a,w=>Region.ready md ops listed=[]/\Q .normal a w
 | fuel+1,listed,a,w =>
  (Region.ready md ops listed=[]->Q .normal a w) /\
  ∀ i ∈ Region.ready md ops listed,wpOp P ops Q i (λa' w'=>(Zb4 L (listed.setIfInBounds i true)=true->S w')/\Zu P md ops Q L S fuel (listed.setIfInBounds i true) a' w') a w
section
variable{P:Program}{ops:Array Oper}{Q:Exit->Act->World->Prop}{md:Region.Mode}{L:List Nat}{S:World->Prop}
theorem Zhq:∀ (fuel:Nat) (listed:Array Bool) (a:Act) (w:World),Zu P md ops Q L S fuel listed a w->wpAny P md ops Q fuel listed a w
 | 0,_,_,_,h=>h
 | fuel+1,_,_,_,h=>⟨h.1,λi hi=>wpOp_mono (λa' w' h'=>Zhq fuel _ a' w' h'.2) (h.2 i hi)⟩
theorem Zav{listed:Array Bool}{j:Nat}(hj:j ∉ L):Zb4 L (listed.setIfInBounds j true)=Zb4 L listed:=by
 unfold Zb4;rw[Bool.eq_iff_iff,QO,QO];have:∀ k ∈ L,(listed.setIfInBounds j true).getD k true=listed.getD k true:=λk hk=>Go.getD_set_ne true (λe=>hj (e▸hk));constructor;intro h k hk;rw[<- this k hk];exact h k hk;intro h k hk;rw[this k hk];exact h k hk
def Zey(md:Region.Mode)(ops:Array Oper)(L:List Nat)(i:Nat):Bool:=L.all λk=>k != i && (match ops[k]? with|some o=>o.after.any λe=>Region.binds md e && e.on == i|none=>false)
theorem FH{G:Prop}(h:G:=by
 rw[Array.setIfInBounds_comm _ _ aC];exact h3.2.2):G:=h
theorem FI{G:Prop}(h:G:=by
 rw[cV]at h2;simp only[Bool.and_eq_true,Array.any_eq_true']at h2;obtain⟨_,e,he,h3,h4⟩:=h2;exact co e he h3 (by simpa using h4)):G:=h
theorem EF{G:Prop}(h:G:=by
 refine aE k ok hk hki ?_ eO;by_cases ia:j=k;subst ia;exact aS;rw[Go.getD_set_ne true ia]at hun;exact hun):G:=h
theorem EH{G:Prop}(h:G:=by
 refine⟨λh=>(by rw[h]at hr;cases hr),λj hj=>?_⟩;by_cases aC:j=i;subst aC;exact hy.wpOp hi hS ⟨λ_=>hS,H⟩;have:=ready_mono hj aC;rw[H.1]at this;cases this):G:=h
theorem Ed{G:Prop}(h:G:=by
 have h1:=hall e he hb;have h0:=(mem_ready.1 hr).1;rw[heq]at h1;rcases Nat.lt_or_ge i listed.size with h'|h';simp[h']at h0 h1;rw[h0]at h1;cases h1;simp[Array.getElem?_eq_none h']at h1):G:=h
theorem Zn2{i:Nat}{oi:Oper}{v:Value}(hi:ops[i]?=some oi)(hsel:∀ (j:Nat) (o:Oper) cs b,ops[j]?=some o->o.op ≠ .select cs b)
    (hQ:∀ c a w,Q (.panic c) (a.put oi.dst v) w->Q (.panic c) a w) (hL:Zey md ops L i=true) :
    ∀ (fuel:Nat) (listed:Array Bool) (a:Act) (w:World),
     (∀ j oj,ops[j]?=some oj->j≠i->listed.getD j true=false->(∀ e ∈ oj.after,Region.binds md e=true->e.on≠i)->oi.apart ops oj=true) ->
     i ∈ Region.ready md ops listed->YieldsIf P ops S oi v a->Zb4 L listed=true->S w ->
     Zu P md ops Q L S fuel (listed.setIfInBounds i true) (a.put oi.dst v) w->Zu P md ops Q L S (fuel+1) listed a w:=by
 have C:i ∉ L:=λh=>by
  unfold Zey at hL;rw[QO]at hL;have:=hL i h;simp at this
 intro fuel
 induction fuel with
 | zero =>
  intro listed a w _ hr hy hn hS H;exact EH
 | succ fuel ih =>
  intro listed a w aE hr hy hn hS H;refine⟨λh=>(by rw[h]at hr;cases hr),λj hj=>?_⟩;by_cases aC:j=i;subst aC;exact hy.wpOp hi hS ⟨λ_=>hS,H⟩;have h1:=H.2 j (ready_mono hj aC);obtain⟨aS,oj,cV,hall⟩:=mem_ready.1 hj
  have co:∀ e ∈ oj.after,Region.binds md e=true->e.on≠i:=λe he hb heq=>by
   exact Ed
  have f:j ∉ L:=λf=>by
   unfold Zey at hL;rw[QO]at hL;have h2:=hL j f;exact FI
  have h2:=wpOp_putIf cV (aE j oj cV aC aS co) (λcs b=>hsel i oi cs b hi) (λcs b=>hsel j oj cs b cV) hQ hy h1
  have u:∀ k ok,ops[k]?=some ok->k≠i->(listed.setIfInBounds j true).getD k true=false ->
      (∀ e ∈ ok.after,Region.binds md e=true->e.on≠i)->oi.apart ops ok=true:=λk ok hk hki hun eO=>by
   exact EF
  have E:Zb4 L (listed.setIfInBounds j true)=true:=by rw[Zav f];exact hn
  refine wpOp_mono (λa' w' h3=>⟨λ_=>h3.2.1 (by rw[Zav f,Zav C];exact hn),ih (listed.setIfInBounds j true) a' w' u (ready_mono hr (Ne.symm aC)) h3.1 E (h3.2.1 (by rw[Zav f,Zav C];exact hn)) ?_⟩) h2;exact FH
theorem Zd{i:Nat}{oi:Oper}{v:Value}{fuel:Nat}{listed:Array Bool}{a:Act}{w:World}(hi:ops[i]?=some oi)
    (hs:Region.noSelect ops=true) (hf:Region.free md ops listed i=true) (hr:(Region.ready md ops listed).contains i=true) (hL:Zey md ops L i=true) (hn:Zb4 L listed=true)
    (hy:YieldsIf P ops S oi v a) (hS:S w)
    (h:Zu P md ops (OnlyNormal Q) L S fuel (listed.setIfInBounds i true) (a.put oi.dst v) w):Zu P md ops (OnlyNormal Q) L S (fuel+1) listed a w:=
 Zn2 hi (Region.noSelect_spec hs) (λ_ _ _ h=>(h:False).elim) hL fuel listed a w (Region.free_spec hi hf) (by simpa using hr) hy hn hS h
theorem Ze{i:Nat}{o:Oper}{fuel:Nat}{listed:Array Bool}{a:Act}{w:World}(ho:ops[i]?=some o)(hr:Region.ready md ops listed=[i])
    (h:∀ K':Act->World->Prop,Shut (∀ a w,(Zb4 L (listed.setIfInBounds i true)=true->S w)->Zu P md ops Q L S fuel (listed.setIfInBounds i true) a w->K' a w)->if Region.wanted o (yielded ops a.tmps)=true then Oper.wp P o a w K' Q else K' (a.put o.dst undef) w) :
    Zu P md ops Q L S (fuel+1) listed a w:=
 ⟨(λh0=>by rw[h0]at hr;cases hr),λj hj=>by
  rw[hr,Yt]at hj;subst hj;exact wpOp_step ho (λK' hK=>h K' (λa w hS hW=>hK a w ⟨hS,hW⟩))⟩
theorem Zr{i:Nat}{o:Oper}{fuel:Nat}{listed:Array Bool}{a:Act}{w:World}(ho:ops[i]?=some o)(hr:Region.ready md ops listed=[i])(hn:Zb4 L (listed.setIfInBounds i true)=false)
    (h:∀ K':Act->World->Prop,Shut (∀ a w,Zu P md ops Q L S fuel (listed.setIfInBounds i true) a w->K' a w)->if Region.wanted o (yielded ops a.tmps)=true then Oper.wp P o a w K' Q else K' (a.put o.dst undef) w) :
    Zu P md ops Q L S (fuel+1) listed a w:=
 Ze ho hr λK hK=>h K λa w hW=>hK a w (λh=>by rw[hn]at h;cases h) hW
theorem Zk{listed:Array Bool}{a:Act}{w:World}(hr:Region.ready md ops listed=[])(h:Q .normal a w):∀ fuel,Zu P md ops Q L S fuel listed a w
 | 0=>⟨hr,h⟩
 | _+1=>⟨λ_=>h,by rw[hr];simp⟩
end
theorem Za6{l n:Nat}{P:Program}{id:Nat}{ops:Array Oper}{Q:Exit->Act->World->Prop}{a:Act}{w:World}(L:List Nat)(S:World->Prop)(hm:P.follows .mixedOrders=true)(hnd:Ziw ops=true)
    (hS:S w.drew) (h:S w.drew->Zu P .any ops (OnlyNormal Q) L S ops.size (Array.replicate ops.size false) a w.drew):(Code.region id ops true).wpIn (Fence.wide.inRound l) n P Q a w:=
 wpIn_region_draw λt=>Zbx (Zmd hnd) _ _ _ (by
  simp only[Region.schedule,hm,Bool.true_or,if_true];exact wpAny_sound ops.size t _ a _ (Zhq _ _ _ _ (h hS)))
theorem Zf6{α:Type}(l:List α)(i:Nat)(a:α):l.toArray.setIfInBounds i a=(l.set i a).toArray:=List.setIfInBounds_toArray l i a
theorem Zfl{α:Type}(a b:α)(l:List α):(a::l).set 0 b=b::l:=rfl
theorem Zfx{α:Type}(a b:α)(l:List α)(n:Nat):(a::l).set (n+1) b=a::l.set n b:=rfl
def Zfz(md:Region.Mode)(ops:Array Oper)(L:List Nat):List Nat->Array Bool->Bool
 | [],_=>true
 | i::is,l=>Region.free md ops l i && (Region.ready md ops l).contains i && Zey md ops L i && Zb4 L l && Zfz md ops L is (l.setIfInBounds i true)
def Zcm(P:Program)(ops:Array Oper)(S:World->Prop):List Nat->Act->(Act->Prop)->Prop
 | [],a,R=>R a
 | i::is,a,R=>∃ oi v,ops[i]?=some oi/\YieldsIf P ops S oi v a/\Zcm P ops S is (a.put oi.dst v) R
def Zdq:List Nat->Array Bool->Array Bool
 | [],l=>l
 | i::is,l=>Zdq is (l.setIfInBounds i true)
theorem Gr{α:Type}(l:List α)(i:Nat)(h:i<l.toArray.size):l.toArray[i]=l[i]'(by simpa using h):=by simp
theorem Gp{α:Type}(a:α)(l:List α)(h:0<(a::l).length):(a::l)[0]'h=a:=rfl
theorem Gq{α:Type}(a:α)(l:List α)(i:Nat)(h:i+1<(a::l).length):(a::l)[i+1]'h=l[i]'(by simpa using h):=rfl
section
variable{P:Program}{ops:Array Oper}{Q:Exit->Act->World->Prop}{md:Region.Mode}{L:List Nat}{S:World->Prop}{R:Act->Prop}
theorem tk0{a:Act}(h:R a):Zcm P ops S [] a R:=h
theorem tk1{i:Nat}{is:List Nat}{oi:Oper}{v:Value}{a:Act}(ho:ops[i]?=some oi)(hy:YieldsIf P ops S oi v a)(h:Zcm P ops S is (a.put oi.dst v) R):Zcm P ops S (i::is) a R:=⟨oi,v,ho,hy,h⟩
theorem tkA{i:Nat}{is:List Nat}{oi:Oper}{v:Value}{a:Act}(h:Zcm P ops S is (a.put oi.dst v) R)(ho:ops[i]?=some oi:=by rfl)(hy:YieldsIf P ops S oi v a:=by refine Or.inl ⟨by kernel_rfl,?_⟩;intro W2 hSw;(try dsimp only at hSw);go_simp;try with_reducible rfl):Zcm P ops S (i::is) a R:=⟨oi,v,ho,hy,h⟩
theorem wpAnyL_o(i:Nat){o:Oper}{fuel:Nat}{listed:Array Bool}{a:Act}{w:World}{Q0:Exit->Act->World->Prop}(h:∀ K':Act->World->Prop,Shut (∀ a w,(Zb4 L (listed.setIfInBounds i true)=true->S w)->Zu P md ops Q0 L S fuel (listed.setIfInBounds i true) a w->K' a w)->if Region.wanted o (yielded ops a.tmps)=true then Oper.wp P o a w K' Q0 else K' (a.put o.dst undef) w)(ho:ops[i]?=some o:=by rfl)(hr:Region.ready md ops listed=[i]:=by kernel_rfl):Zu P md ops Q0 L S (fuel+1) listed a w:=Ze ho hr h
theorem wpAnyL_fin{fuel:Nat}{listed:Array Bool}{a:Act}{w:World}(h:Q .normal a w)(hr:Region.ready md ops listed=[]:=by kernel_rfl):Zu P md ops (OnlyNormal Q) L S fuel listed a w:=Zk hr (OnlyNormal.normal h) fuel
theorem Ze6(hs:Region.noSelect ops=true){w:World}(hS:S w):∀ (is:List Nat) (F:Nat) (listed:Array Bool) (a:Act),Zfz md ops L is listed=true->Zcm P ops S is a (λa'=>Zu P md ops (OnlyNormal Q) L S F (Zdq is listed) a' w)->Zu P md ops (OnlyNormal Q) L S (F+is.length) listed a w
 | [],F,l,a,_,h=>h
 | i::is,F,l,a,hc,h=>by
  obtain⟨oi,v,ho,hy,h2⟩:=h;simp only[Zfz,QN]at hc;exact Zd ho hs hc.1.1.1.1 hc.1.1.1.2 hc.1.1.2 hc.1.2 hy hS (Ze6 hs hS is F _ _ hc.2 h2)
theorem Zin{F:Nat}{listed:Array Bool}{a:Act}{w:World}(k:Nat)(is:List Nat)(hk:is.length=k)(hc:(Region.noSelect ops && Zfz md ops L is listed)=true)(hS:S w)
    (h:Zcm P ops S is a (λa'=>Zu P md ops (OnlyNormal Q) L S F (Zdq is listed) a' w)):Zu P md ops (OnlyNormal Q) L S (F+k) listed a w:=by
 rw[QN]at hc;subst hk;exact Ze6 hc.1 hS is F listed a hc.2 h
end
theorem Zcu{W W':World}{row:Option Nat}{g:Nat}{t:TypeId}{cs:Array Value}(h:Blk W g t cs)(hg:W.grownBy W' row)(hrow:∀ r,row=some r->∃ o:Obj,W.heap[r]?=some o/\o.isCells=false):Blk W' g t cs:=
 (hg.block g h.lt (λe=>by
  obtain⟨o,ho,hc⟩:=hrow g e.symm;unfold Blk at h;rw[h]at ho;cases ho;cases hc)).trans h
theorem Zo5{n:Nat}{pre:List { i:Nat // i<n }}{x:{ i:Nat // i<n }}(hl:pre.length<n)(h:pre ++ [x]=Zcz n (pre.length+1)):pre=Zcz n pre.length/\x.1=n-1-pre.length:=by
 rw[Zdi hl]at h;obtain⟨h1,h2⟩:=Yy h rfl;refine⟨h1,?_⟩;have:=congrArg (List.map (λz:{ i:Nat // i<n }=>z.1)) h2;simpa using this
def DownI(h n D:Nat)(l:List Nat)(rb:Nat->Value)(t6 t7:TypeId)(B0:Value)(tB:TypeId)(pre:List { i:Nat // i<n })(W:World):Prop:=
 ∃ (o:List Nat) (r:Nat),Blk W h tB #[B0]/\Blk W (h+1) 143 (Zt o)/\Blk W (h+1+1) t6 #[.slice (some ⟨h+1,0,none⟩) n n]/\Blk W (h+1+1+1) t7 #[rb r]/\o.length=n/\Lt32 o/\r<D /\
  (pre=Zcz n pre.length->val (o.drop (n-pre.length))*D+r=val (l.drop (n-pre.length)))
theorem DownI.own{h n D:Nat}{l:List Nat}{rb:Nat->Value}{t6 t7:TypeId}{B0:Value}{tB:TypeId}{pre:List { i:Nat // i<n }}{W W':World}{row:Option Nat}(H:DownI h n D l rb t6 t7 B0 tB pre W)(hg:W.grownBy W' row)(hr:∀ r,row=some r->∃ o:Obj,W.heap[r]?=some o/\o.isCells=false):DownI h n D l rb t6 t7 B0 tB pre W':=by
 obtain⟨o,r,h1,h2,h3,h4,h5⟩:=H;exact⟨o,r,Zcu h1 hg hr,Zcu h2 hg hr,Zcu h3 hg hr,Zcu h4 hg hr,h5⟩
theorem DownI.step{h n D:Nat}{l:List Nat}{rb:Nat->Value}{t6 t7:TypeId}{B0:Value}{tB:TypeId}{pre:List { i:Nat // i<n }}{x:{ i:Nat // i<n }}{W':World}{o:List Nat}{r q r':Nat}
    (h1:Blk W' h tB #[B0]) (h2:Blk W' (h+1) 143 (Zt (o.set x.1 q))) (h3:Blk W' (h+1+1) t6 #[.slice (some ⟨h+1,0,none⟩) n n]) (h4:Blk W' (h+1+1+1) t7 #[rb r']) (h5:o.length=n) (h6:Lt32 o) (hq:q<4294967296) (hr:r'<D)
    (hl:l.length=n) (hp:pre.length<n) (hI:pre=Zcz n pre.length->val (o.drop (n-pre.length))*D+r=val (l.drop (n-pre.length))) (he:q*D+r'=r*4294967296+l[x.1]?.getD 0):DownI h n D l rb t6 t7 B0 tB (pre ++ [x]) W':=by
 refine⟨o.set x.1 q,r',h1,h2,h3,h4,by rw[Qg];exact h5,h6.set _ hq,hr,λe=>?_⟩;rw[Ys,List.length_singleton]at e ⊢;obtain⟨e1,e2⟩:=Zo5 hp e;have hI:=hI e1;rw[show n-(pre.length+1)=x.1 by omega];rw[show n-pre.length=x.1+1 by omega]at hI;exact Zmm Gk Gk hI he
theorem trim_q(A:Option Addr)(n c:Nat)(l:List Nat)(w:World)(h:Lim w A n c l) :
    Calls Tryz.prog 134 #[.slice A n c] w λe w'=>e=.returned (.slice A (digits (val l)).length c)/\∃ m,w'=w.drewN m:=
 (Zff A n c l w h).mono λ_ _ ⟨he,hw⟩=>⟨he,0,hw.symm⟩
def ShortP(w:World)(a d:Nat)(e:Ending)(w':World):Prop:=
 ∃ A n c,e=.returned (.tuple #[.slice A n c,limb (a%d)])/\Lim w' A n c (digits (a/d))/\Below w.heap.size w w'
theorem Ii{G:Prop}(h:G:=by
 exact(Zg hB nq).trans (belowK_b (w:=w) (Nat.le_refl _) _ D _ _ (by simp at hD;omega) dJ rfl rfl)):G:=h
theorem FC{G:Prop}(h:G:=by
 have:=Nat.mul_le_mul_left 4294967296 (show r+1<=d by omega);omega):G:=h
theorem Ztg(A:Option Addr)(n c d:Nat)(l:List Nat)(w:World)(hl:Lim w A n c l)(hd0:0<d)(hd:d<4294967296)(hn9:n<=1000000) :
    Calls Tryz.prog 137 #[.slice A n c,limb d] w (ShortP w (val l) d):=by
 obtain⟨i0,hi,a0,a2,a4⟩:=info_parts Zdc;have a8:=Zgm (P:=Tryz.prog) 28 143 Tryz.underlying28 hi a0 a2 a4 (n:Int) n rfl Gk;have a7:=hl.2.1;have O:=hl.2.2.1;unfold maxLen at O;have h9:1<=9:=Gk;refine(callsIn_wide (n:=9)).1 ?_;refine callsIn_of_wp_marks Tryz.func137 rfl trivial ?_ rfl;simp only[Tryz.ntmps137,QJ,Qq,Qx,QY,QZ,QB,QC,QK,QE,Qw,QA]
 gi_wp2_with (refine⟨trivial,?_⟩;gi_at_call 142;refine(callsIn_wide.2 (Zku _ _ _ _)).mono ?_;rintro e w' ⟨rfl,rfl⟩)
 have bD:=Blk.new w 143 #[limb d];have bO:=Blk.new (w.alloc (.cells #[limb d] 143)) 143 (Zt (Qc n 0));have b6:=Blk.new ((w.alloc (.cells #[limb d] 143)).alloc (.cells (Zt (Qc n 0)) 143)) 28 #[.slice (some ⟨w.heap.size+1,0,none⟩) n n];have b7:=Blk.new (((w.alloc (.cells #[limb d] 143)).alloc (.cells (Zt (Qc n 0)) 143)).alloc (.cells #[.slice (some ⟨w.heap.size+1,0,none⟩) n n] 28)) 143 #[limb 0];have bN:=Boxed.new ((((w.alloc (.cells #[limb d] 143)).alloc (.cells (Zt (Qc n 0)) 143)).alloc (.cells #[.slice (some ⟨w.heap.size+1,0,none⟩) n n] 28)).alloc (.cells #[limb 0] 143)) 28 (.slice A n c);simp only[Yg]at bO b6 b7 bN;have E:Below w.heap.size w (((((w.alloc (.cells #[limb d] 143)).alloc (.cells (Zt (Qc n 0)) 143)).alloc (.cells #[.slice (some ⟨w.heap.size+1,0,none⟩) n n] 28)).alloc (.cells #[limb 0] 143)).alloc (.cells #[.slice A n c] 28)):=by go_grown
 have h0:DownI w.heap.size n d l limb 28 143 (limb d) 143 [] (((((w.alloc (.cells #[limb d] 143)).alloc (.cells (Zt (Qc n 0)) 143)).alloc (.cells #[.slice (some ⟨w.heap.size+1,0,none⟩) n n] 28)).alloc (.cells #[limb 0] 143)).alloc (.cells #[.slice A n c] 28)):=
  ⟨Qc n 0,0,(((bD.alloc _).alloc _).alloc _).alloc _,((bO.alloc _).alloc _).alloc _,(b6.alloc _).alloc _,b7.alloc _,by simp,Lt32.replicate _,hd0,λ_=>by rw[Qx,Yu,Qe Gh,Qe (by rw[hl.len];exact Qb _)];simp[val]⟩
 have hmx:=Gt
 refine wpIn_rangeFunc_ownF rfl h9 (gf:=162) (lb:=#[.pointer (some ⟨w.heap.size+1+1+1+1,0,none⟩)]) rfl trivial (enters_of Tryz.func162 Gj rfl)
  (Zh0 8 Gk (w.heap.size+1+1+1+1) n c A l _ bN.cell (hl.below E)) KpD.trans (λW l o o' _ h hc _=>KpD.put W l o o' h hc) (Qu _ _) (λ_=>rfl)
  (λpre W=>DownI w.heap.size n d l limb 28 143 (limb d) 143 pre W/\Below w.heap.size w W)
  (λ_ _ _=>False)
  (OwnFrom.and (Own.from (λs X Y row hs hg hr=>hs.own hg hr) _) (ownFrom_below (Qb _) Gg))
  (λcc=>Own.from (λs X Y row hs hg hr=>hs) _)
  ⟨h0,E⟩
  (λx=>{ tmps:=#[.slice A n c,limb d,undef,.pointer (some ⟨w.heap.size,0,none⟩),.slice none 0 0,.int .u32 0,.pointer (some ⟨w.heap.size+1+1,0,none⟩),.pointer (some ⟨w.heap.size+1+1+1,0,none⟩),.int .i64 (x.1:Int),limb (l[x.1]?.getD 0),.slice A n c,
   .int .i64 n,.slice (some ⟨w.heap.size+1,0,none⟩) n n,.slice A n c,.func (.func 162) #[] #[.pointer (some ⟨w.heap.size+1+1+1+1,0,none⟩)],.int .i64 (x.1:Int),limb (l[x.1]?.getD 0),
   undef,undef,undef,undef,undef,undef,undef,undef,undef,undef,undef,undef,undef],defers:=[] }) ?assign ?body ?done ?stop
 case assign =>
  exact IQ
 case body =>
  rintro lp pre x W ⟨⟨o,r,k1,k2,k3,k4,k5,k6,k7,k8⟩,hB⟩ I;obtain⟨i,C⟩:=x;have k8:=Zb k8;have k5:=Zb k5;have c1:=k1.cell 0;have c3:=k3.cell 0;have c4:=k4.cell 0;have f4:=k4.frozen 0;have c2:=k2.cell i;rw[Zaz o i (by rw[k5.out];exact C)]at c2;have f2:=k2.frozen i;simp at c1 c3 c4;have hx:=hl.lt.get i
  gi_wp2
  refine Za6 [11] (λW'=>W'.cell? ⟨w.heap.size,0,none⟩=some (limb d)/\W'.cell? ⟨w.heap.size+1+1,0,none⟩=some (.slice (some ⟨w.heap.size+1,0,none⟩) n n)/\W'.cell? ⟨w.heap.size+1+1+1,0,none⟩=some (limb r)) hmx Gj ⟨c1,c3,c4⟩ (λ_=>?_);refine Zin 5 [0,1,2,3,4] rfl Gj ⟨c1,c3,c4⟩ ?_
  iterate 5 (refine tkA ?_;try simp only[QP,Zf6,Zfl,Zfx,Gr,Gq,Gp])
  refine tk0 ?_;refine wpAnyL_o 5 λK hK=>?_;go_simp;refine(Znf _ _ _ _ k7 hx hd).mono ?_;rintro e w2 ⟨rfl,rfl⟩;refine hK.out _ _ (λ_=>⟨c1,c3,c4⟩) ?_;clear hK K
  try simp only[QP,Zf6,Zfl,Zfx]
  refine Zin 4 [6,7,9,8] rfl Gj ⟨c1,c3,c4⟩ ?_
  iterate 4 (refine tkA ?_;try simp only[QP,Zf6,Zfl,Zfx,Gr,Gq,Gp])
  refine tk0 ?_;refine wpAnyL_o 10 λK hK=>?_;go_simp;generalize f:World.drew (World.drew (World.setCell W _ _))=W5;have a3:W5.cell? ⟨w.heap.size,0,none⟩=some (limb d):=by rw[<- f];exact(Qd _ _ _ _ Gh).trans c1
  have a1:W5.cell? ⟨w.heap.size+1+1,0,none⟩=some (.slice (some ⟨w.heap.size+1,0,none⟩) n n):=by rw[<- f];exact(Qd _ _ _ _ Gh).trans c3
  have a5:W5.cell? ⟨w.heap.size+1+1+1,0,none⟩=some (limb r):=by rw[<- f];exact(Qd _ _ _ _ Gh).trans c4
  have a6:W5.frozen? ⟨w.heap.size+1+1+1,0,none⟩=false:=by rw[<- f];exact(World.frozen?_setCell _ _ _ _).trans f4
  replace f:=Zb f;refine hK.out _ _ (λ_=>⟨a3,a1,a5⟩) ?_;clear hK K
  try simp only[QP,Zf6,Zfl,Zfx]
  refine Zr (i:=11) rfl Gj Gj (λK hK=>?_);go_simp;refine hK.out _ _ ?_;clear hK K
  try simp only[QP,Zf6,Zfl,Zfx]
  refine wpAnyL_fin ?_
  gi_wp2
  have e1:((r:Int)*4294967296+((l[i]?.getD 0:Nat):Int))/(d:Int)=(((r*4294967296+l[i]?.getD 0)/d:Nat):Int):=Gh;have e2:((r:Int)*4294967296+((l[i]?.getD 0:Nat):Int))%(d:Int)=(((r*4294967296+l[i]?.getD 0)%d:Nat):Int):=Gh;have f:=f.out;rw[e1]at f;rw[e2]
  have hq:(r*4294967296+l[i]?.getD 0)/d<4294967296:=by
   rw[Qj Gk];exact FC
  have hr:(r*4294967296+l[i]?.getD 0)%d<d:=Yc _ hd0;have he:(r*4294967296+l[i]?.getD 0)/d*d+(r*4294967296+l[i]?.getD 0)%d=r*4294967296+l[i]?.getD 0:=by rw[Qp];exact QR _ _
  generalize (r*4294967296+l[i]?.getD 0)/d=q at *;generalize (r*4294967296+l[i]?.getD 0)%d=r' at *;subst f;refine⟨((KeepsOthers.setCell _ _ _).trans (KeepsOthers.drew _)).trans ((KeepsOthers.drew _).trans (KeepsOthers.setCell _ _ _)),(KpD.set_ (w:=w) (o:=i) hl Gk Gk (limb q)).trans (KpD.set_ (w:=w) (o:=0) hl Gk Gk (limb r')),?_,?_⟩
  ·refine DownI.step (x:=⟨i,C⟩) (((k1.far Gf _).drewN 2).far Gf _) ?_ (((k3.far Gf _).drewN 2).far Gf _) (((k4.far Gf _).drewN 2).set_ 0 (limb r')) k5.out k6 hq hr hl.len I k8.out he
   have:=((k2.set_ i (limb q)).drewN 2).far (p:=⟨w.heap.size+1+1+1,0,none⟩) Gf (limb r');rw[Zbw]at this;exact this
  exact(Zg (hB.setCell (p:=⟨w.heap.size+1,i,none⟩) Gh _) 2).setCell (p:=⟨w.heap.size+1+1+1,0,none⟩) Gg _
 case done =>
  rintro D ys W hD rfl ⟨⟨o,r,k1,k2,k3,k4,k5,k6,k7,k8⟩,hB⟩ hK;have k8:=k8 (by rw[Zc6 (Qb _)]);rw[Zc6 (Qb _),Nat.sub_self,QI,QI]at k8;obtain⟨e1,e2⟩:=Znp (U:=val l) (V:=d) (q:=val o) (R:=r) Gk k7;have u:=Lim.of_blk k2 k6 (by rw[k5];unfold maxLen;omega);rw[k5]at u;have k8:=Zb k8;have k5:=Zb k5;have c3:=k3.cell 0;have c4:=k4.cell 0;simp at c3 c4
  gi_wp2
  refine wpIn_wide.2 ?_
  go_quiet ((go_at_call 134;exact Calls.quiet_of (trim_q _ _ _ _ _ u)))
  gi_wp2
  have dJ:(W.drewN nq).heap[D]?=some (.deferred (some [])):=hK;refine⟨by simp,.inl ⟨_,_,rfl,run_takeDeferred dJ,?_⟩⟩;have J:=Zgd (u.canon.1.drewN nq) (grownBy_putObj' (W.drewN nq) D (.deferred none)) (λr e=>by cases e;exact⟨_,dJ,rfl⟩);rw[e1]at J;refine⟨.tuple #[.slice (some ⟨w.heap.size+1,0,none⟩) (digits (val o)).length n,limb (val l%d)],by simp[results,Tryz.f137,go_sem],⟨_,_,_,by rw[e1],J,?_⟩⟩;exact Ii
 case stop =>
  rintro D c pre W _ _ h _;exact h.elim
theorem or_add{a b s:Nat}(hb:b<2^s):b ||| 2^s*a=b+2^s*a:=by
 have h2:=Qy (i:=s) (b:=b) hb a;rw[Nat.or_comm,<- h2,Yq]
def LeftP(w:World)(s:Nat)(l:List Nat)(i cy:Nat)(v:Value)(wr:World):Prop:=
 ∃ o,OwnL 143 wr w.heap.size v o/\o.length=i/\cy<2^s/\val o+pw i*cy=2^s*val (l.take i)/\Below w.heap.size w wr
theorem EM{G:Prop}(h:G:=by
 have cp:OwnL 143 w1 w.heap.size v1 (o ++ [cy]):=OwnL.snoc (s:=cy) aI.out.symm ax ah.2 Gk ef;have ab:=(hB.alloc hB.size _).grown bM Ge ah.row_ge;go_ret;refine⟨v1,_,rfl,cp,by rw[List.length_append,aI.out];rfl,?_,ab⟩;rw[Zeb,aI.out,hI.out,Z8 (by rw[aL.out];exact Nat.le_refl _)]):G:=h
theorem Ek{G:Prop}(h:G:=by
 have cp:OwnL 143 w1 w.heap.size v1 (o ++ [t%4294967296]):=OwnL.snoc (s:=t%4294967296) aI.out.symm ax ah.2 Gk (Nat.mod_lt _ Gi);have ab:=(hB.alloc hB.size _).grown bM Ge ah.row_ge
 go_roundw
 case rel =>
  refine⟨i+1,t/4294967296,by omega,by go_num,by go_num,_,cp,by rw[List.length_append,aI.out];rfl,by rw[hp.out];exact io,?_,ab⟩;rw[Zeb,aI.out,eR.out,hp.out,Nat.mul_add,Zbh];have h1:=hI.out;rw[hp.out]at h1
  have h2:pw i*(t%4294967296)+4294967296*pw i*(t/4294967296)=pw i*t:=by
   rw[Nat.mul_comm 4294967296 (pw i),Nat.mul_assoc,<- Nat.mul_add,Nat.mod_add_div]
  have h3:p*(pw i*x)=pw i*(p*x):=by rw[Nat.mul_left_comm]
  rw[h3,<- h1,Nat.add_assoc,h2,<- ht.out,Nat.mul_add];omega
 case measure=>simp[intOf];omega):G:=h
theorem Zp7(A:Option Addr)(n c s:Nat)(l:List Nat)(w:World)(h:Lim w A n c l)(hs:s<32)(hn9:n<=1000000) :
    Calls Tryz.prog 139 #[.slice A n c,.int .i64 s] w (λe w'=>∃ v o,e=.returned v/\OwnL 143 w' w.heap.size v o/\o.length=n+1/\val o=2^s*val l/\Below w.heap.size w w'):=by
 obtain⟨i0,hi,u,E,J⟩:=info_parts Zdc;have a4:=h.2.1;have O:=h.2.2.1;unfold maxLen at O
 have a5:∀ W:World,(Instr.makeSlice 28 (.int .i64 0) (.int .i64 ((n:Int)+1))).run Tryz.prog W=.ok (.slice (some ⟨W.heap.size,0,none⟩) 0 (n+1)) (W.alloc (.cells (Zt (Qc (n+1) 0)) 143)):=λW=>by
  have hr:=run_make (P:=Tryz.prog) W 28 143 i0 _ Tryz.underlying28 hi u .i64 .i64 0 ((n:Int)+1) Gk Gk (by rw[J];omega) Gk;rw[hr,E]
  have:madeCells (Value.int .u32 0).cells (((n:Int)+1).toNat*1)=Zt (Qc (n+1) 0):=by
   rw[show ((n:Int)+1).toNat*1=n+1 by omega];apply Array.toList_inj.1;rw[show (Value.int .u32 0).cells=#[.int .u32 0] from rfl,toList_madeCells_one];simp[Zt,limb]
  rw[this,show ((n:Int)+1).toNat=n+1 by omega];rfl
 have hO:OwnL 143 (w.alloc (.cells (Zt (Qc (n+1) 0)) 143)) w.heap.size (.slice (some ⟨w.heap.size,0,none⟩) 0 (n+1)) []:=
  ⟨⟨rfl,.inr ⟨w.heap.size,n+1,_,rfl,Qb _,heap_alloc_new _ _,Qo _,by unfold maxLen;omega,by simp[Zt],by simp⟩⟩,Lt32.nil⟩
 have q3:((s:Int)/32)=0:=Gk;have q4:((s:Int)%32)=(s:Int):=Gk
 go_in;go_wp2_with fail
 go_loopw [20,6,5] (λiv cv ov wr=>∃ i cy:Nat,i<=n/\iv=.int .i64 i/\cv=.int .u64 cy/\LeftP w s l i cy ov wr) (λiv _ _ _=>n-(intOf iv).toNat)
 case atStart=>exact⟨0,0,Qo _,rfl,rfl,[],hO,rfl,QD Gk,by simp[val],(Qu _ _).alloc (Qb _) _⟩
 case round =>
  obtain⟨i,cy,a3,rfl,rfl,o,ah,aI,C,hI,hB⟩:=hrel;replace aI:=Zb aI;replace hI:=Zb hI;by_cases hi':i<n
  ·obtain⟨b,of,rfl,I⟩:=(h.below hB).at_ hi'
   have hx:=h.lt.get i;obtain⟨p,hp⟩:=Gz (2^s);have a1:p<=2147483648:=by rw[<- hp];exact Qz Gk (show s<=31 by omega)
   have a2:p*l[i]?.getD 0<=2147483648*4294967295:=QS a1 Gk
   have Y:bits .or .u64 (cy:Int) (IntKind.u64.wrap (((l[i]?.getD 0:Nat):Int)*2^s))=((cy+p*l[i]?.getD 0:Nat):Int):=by
    have e1:(((l[i]?.getD 0:Nat):Int)*2^s)=((p*l[i]?.getD 0:Nat):Int):=by rw[<- hp];push_cast;rw[Int.mul_comm]
    have a0:cy<18446744073709551616:=Gk;rw[e1,Yf,show (((p*l[i]?.getD 0:Nat):Int)%18446744073709551616)=((p*l[i]?.getD 0:Nat):Int) by omega,u64_or_nat _ _ a0 Gk,<- hp,or_add C]
   rw[hp]at C;replace hp:=Zb hp;have eR:Hid (val (l.take (i+1))=val (l.take i)+pw i*l[i]?.getD 0):=Z3 l i;obtain⟨x,f⟩:=Gz (l[i]?.getD 0);rw[f]at I hx a2 Y eR;replace f:=Zb f;obtain⟨t,ht⟩:=Gz (cy+p*x)
   have io:t/4294967296<p:=by
    rw[Qj Gk,<- ht];have:p*x+p<=p*4294967296:=by rw[<- Nat.mul_succ];exact Qf _ Gk
    omega
   rw[ht]at Y;replace ht:=Zb ht;go_wp2_with (at_builtin;refine Zp _ rfl (.tmp 31) (.tmp 34) 28 rfl w.heap.size 143 i0 _ 1 4 Tryz.underlying28 hi u E J rfl Gk _ i (o.map limb) rfl (by have:=aI.out;subst this;exact ah.1.alloc _) _ _ 1 1 _ rfl (Zbo _ _ _) (by simp[Value.oneCell']) (by simp only[maxLen];omega) Gk Ge ?_;intro v1 w1 ax bM U);exact Ek
  obtain rfl:i=n:=Gk;have aL:=Zb h.len;have ef:cy<4294967296:=QU C (show 2^s<=4294967296 from Nat.le_trans (Qz Gi (show s<=32 by omega)) Gi);have O:((cy:Int))%4294967296=(cy:Int):=Gk;clear h;go_wp2_with (at_builtin;refine Zp _ rfl (.tmp 39) (.tmp 42) 28 rfl w.heap.size 143 i0 _ 1 4 Tryz.underlying28 hi u E J rfl Gk _ i (o.map limb) rfl (by have:=aI.out;subst this;exact ah.1.alloc _) _ _ 1 1 _ rfl (Zbo _ _ _) (by simp[Value.oneCell']) (by simp only[maxLen];omega) Gk Ge ?_;intro v1 w1 ax bM U);exact EM
theorem Zrl(A:Option Addr)(c:Nat)(fn:Value)(w:World) :
    Calls Tryz.prog 166 #[.slice A 0 c,fn] w λe w'=>e=.returned (.int .i64 (-1))/\w=w':=by
 go_in;go_wp2_with fail
 go_loop [8] (λv=>v=.int .i64 0) (λ_=>0)
 case atStart=>rfl
 case round =>
  subst hrel;go_wp2_with fail;go_ret;exact⟨rfl,rfl⟩
theorem Zmi(A:Option Addr)(c:Nat)(fn:Value)(w:World) :
    Calls Tryz.prog 160 #[.slice A 0 c,fn] w λe w'=>e=.returned (.bool false)/\w=w':=by
 go_in;go_wp2_with (go_at_call 166;refine(Zrl _ _ _ _).mono ?_;rintro e w' ⟨rfl,rfl⟩);go_ret;exact⟨rfl,rfl⟩
def RightP(w:World)(l:List Nat)(s:Nat)(e:Ending)(w':World):Prop:=
 ∃ A n c o b,e=.returned (.tuple #[.slice A n c,.bool b])/\Lim w' A n c o/\val o=val l/2^s/\Below w.heap.size w w'
theorem Zs2(A:Option Addr)(n c s:Nat)(l:List Nat)(w:World)(hl:Lim w A n c l)(hs:s<32)(hn9:n<=1000000) :
    Calls Tryz.prog 141 #[.slice A n c,.int .i64 s] w (RightP w l s):=by
 obtain⟨i0,hi,a6,b0,a9⟩:=info_parts Zdc;have b8:=Zgm (P:=Tryz.prog) 28 143 Tryz.underlying28 hi a6 b0 a9 (n:Int) n rfl Gk;have b9:=hl.2.1;have a8:=hl.2.2.1;unfold maxLen at a8;have q3:((s:Int)/32)=0:=Gk;have q4:((s:Int)%32)=(s:Int):=Gk;have h9:1<=9:=Gk;refine(callsIn_wide (n:=9)).1 ?_;refine callsIn_of_wp_marks Tryz.func141 rfl trivial ?_ rfl;simp only[Tryz.ntmps141,QJ,Qq,Qx,QY,QZ,QB,QC,QK,QE,Qw,QA]
 gi_wp2_with (first|(refine⟨trivial,?_⟩;gi_at_call 160;refine(callsIn_wide.2 (Zmi _ _ _ _)).mono ?_;rintro e w' ⟨rfl,rfl⟩)|(refine⟨trivial,?_⟩;gi_at_call 142;refine(callsIn_wide.2 (Zku _ _ _ _)).mono ?_;rintro e w' ⟨rfl,rfl⟩))
 have bD:=Blk.new w 3 #[.int .i64 (s:Int)];have bO:=Blk.new (w.alloc (.cells #[.int .i64 (s:Int)] 3)) 143 (Zt (Qc n 0));have b6:=Blk.new ((w.alloc (.cells #[.int .i64 (s:Int)] 3)).alloc (.cells (Zt (Qc n 0)) 143)) 28 #[(.slice (some ⟨w.heap.size+1,0,none⟩) n n)];have b7:=Blk.new (((w.alloc (.cells #[.int .i64 (s:Int)] 3)).alloc (.cells (Zt (Qc n 0)) 143)).alloc (.cells #[(.slice (some ⟨w.heap.size+1,0,none⟩) n n)] 28)) 141 #[.int .u64 0];have bN:=Boxed.new ((((w.alloc (.cells #[.int .i64 (s:Int)] 3)).alloc (.cells (Zt (Qc n 0)) 143)).alloc (.cells #[(.slice (some ⟨w.heap.size+1,0,none⟩) n n)] 28)).alloc (.cells #[.int .u64 0] 141)) 28 (.slice A n c);simp only[Yg]at bO b6 b7 bN;have E:Below w.heap.size w (((((w.alloc (.cells #[.int .i64 (s:Int)] 3)).alloc (.cells (Zt (Qc n 0)) 143)).alloc (.cells #[(.slice (some ⟨w.heap.size+1,0,none⟩) n n)] 28)).alloc (.cells #[.int .u64 0] 141)).alloc (.cells #[.slice A n c] 28)):=by go_grown
 have h0:DownI w.heap.size n (2^s) l (λr=>.int .u64 (r:Int)) 28 141 (.int .i64 (s:Int)) 3 [] (((((w.alloc (.cells #[.int .i64 (s:Int)] 3)).alloc (.cells (Zt (Qc n 0)) 143)).alloc (.cells #[(.slice (some ⟨w.heap.size+1,0,none⟩) n n)] 28)).alloc (.cells #[.int .u64 0] 141)).alloc (.cells #[.slice A n c] 28)):=
  ⟨Qc n 0,0,(((bD.alloc _).alloc _).alloc _).alloc _,((bO.alloc _).alloc _).alloc _,(b6.alloc _).alloc _,b7.alloc _,by simp,Lt32.replicate _,QD Gk,λ_=>by rw[Qx,Yu,Qe Gh,Qe (by rw[hl.len];exact Qb _)];simp[val]⟩
 have hmx:=Gt
 refine wpIn_rangeFunc_ownF rfl h9 (gf:=162) (lb:=#[.pointer (some ⟨w.heap.size+1+1+1+1,0,none⟩)]) rfl trivial (enters_of Tryz.func162 Gj rfl)
  (Zh0 8 Gk (w.heap.size+1+1+1+1) n c A l _ bN.cell (hl.below E)) KpD.trans (λW l o o' _ h hc _=>KpD.put W l o o' h hc) (Qu _ _) (λ_=>rfl)
  (λpre W=>DownI w.heap.size n (2^s) l (λr=>.int .u64 (r:Int)) 28 141 (.int .i64 (s:Int)) 3 pre W/\Below w.heap.size w W)
  (λ_ _ _=>False)
  (OwnFrom.and (Own.from (λs X Y row hs hg hr=>hs.own hg hr) _) (ownFrom_below (Qb _) Gg))
  (λcc=>Own.from (λs X Y row hs hg hr=>hs) _)
  ⟨h0,E⟩
  (λx=>{ tmps:=#[Value.slice A n c,Value.int IntKind.i64 (s:Int),undef,Value.pointer (some ⟨w.heap.size,0,none⟩),Value.slice none 0 0,Value.bool false,Value.int IntKind.i64 0,Value.bool false,Value.pointer (some ⟨w.heap.size+1+1,0,none⟩),Value.pointer (some ⟨w.heap.size+1+1+1,0,none⟩),.int .i64 (x.1:Int),limb (l[x.1]?.getD 0),Value.int IntKind.i64 (s:Int),Value.int IntKind.i64 0,Value.slice A n c,Value.int IntKind.i64 (n:Int),Value.int IntKind.i64 0,Value.slice A n c,Value.int IntKind.i64 0,Value.slice A 0 c,Value.bool false,Value.slice A n c,Value.int IntKind.i64 (n:Int),Value.int IntKind.i64 0,Value.int IntKind.i64 (n:Int),Value.slice (some ⟨w.heap.size+1,0,none⟩) n n,Value.slice A n c,Value.int IntKind.i64 0,Value.slice A n c,.func (.func 162) #[] #[.pointer (some ⟨w.heap.size+1+1+1+1,0,none⟩)],.int .i64 (x.1:Int),limb (l[x.1]?.getD 0),undef,undef,undef,undef,undef,undef,undef,undef,undef,undef,undef,undef,undef,undef,undef,undef,undef,undef,undef,undef,undef,undef,undef,undef,undef],defers:=[] }) ?assign ?body ?done ?stop
 case assign =>
  exact IQ
 case body =>
  rintro lp pre x W ⟨⟨o,r,k1,k2,k3,k4,k5,k6,k7,k8⟩,hB⟩ O;obtain⟨i,C⟩:=x;have k8:=Zb k8;have k5:=Zb k5;have c1:=k1.cell 0;have c3:=k3.cell 0;have c4:=k4.cell 0;have f4:=k4.frozen 0;have c2:=k2.cell i;rw[Zaz o i (by rw[k5.out];exact C)]at c2;have f2:=k2.frozen i;simp at c1 c3 c4;have hx:=hl.lt.get i;obtain⟨p,hp⟩:=Gz (2^s);have J:0<p:=by rw[<- hp];exact QD Gk
  have b2:p<=2147483648:=by rw[<- hp];exact Qz Gk (show s<=31 by omega)
  rw[hp]at k7;obtain⟨t,ht⟩:=Gz (r*4294967296+l[i]?.getD 0);have b3:t<9223372036854775808:=Gk
  have a5:t/p<4294967296:=by
   rw[Qj J];have:=Qf 4294967296 (show r+1<=p by omega);omega
  have b5:bits .or .u64 ((r:Int)*4294967296) ((l[i]?.getD 0:Nat):Int)=(t:Int):=by
   have h1:((r:Int)*4294967296)=((4294967296*r:Nat):Int):=Gk;rw[h1,u64_or_nat _ _ Gk Gk];have h2:=Qy (i:=32) (b:=l[i]?.getD 0) Gk r;rw[show (2:Nat)^32=4294967296 by rfl]at h2;rw[<- h2];omega
  have c0:r*4294967296<9223372036854775808:=Gk;have q5:((s:Int)).tmod 32=(s:Int):=by rw[Int.tmod_eq_emod_of_nonneg Gk];exact q4
  replace ht:=Zb ht;replace hp:=Zb hp;obtain⟨wo,I⟩:∃ wo:World,wo=W:=⟨_,rfl⟩;replace I:=Zb I
  gi_wp2
  generalize f:World.setCell W ⟨w.heap.size+1+1+1,0,none⟩ _=W1;have a1:W1.cell? ⟨w.heap.size,0,none⟩=some (.int .i64 (s:Int)):=by rw[<- f];exact(Qd _ _ _ _ Gf).trans c1
  have a2:W1.cell? ⟨w.heap.size+1,i,none⟩=some (limb (o[i]?.getD 0)):=by rw[<- f];exact(Qd _ _ _ _ Gf).trans c2
  have a3:W1.cell? ⟨w.heap.size+1+1,0,none⟩=some (.slice (some ⟨w.heap.size+1,0,none⟩) n n):=by rw[<- f];exact(Qd _ _ _ _ Gf).trans c3
  have a4:W1.cell? ⟨w.heap.size+1+1+1,0,none⟩=some (.int .u64 (t:Int)):=by rw[<- f];exact World.cell?_setCell_same _ _ _ c4
  have g2:W1.frozen? ⟨w.heap.size+1,i,none⟩=false:=by rw[<- f];exact(World.frozen?_setCell _ _ _ _).trans f2
  have g4:W1.frozen? ⟨w.heap.size+1+1+1,0,none⟩=false:=by rw[<- f];exact(World.frozen?_setCell _ _ _ _).trans f4
  replace f:=Zb f;refine Za6 [8] (λW'=>W'.cell? ⟨w.heap.size,0,none⟩=some (.int .i64 (s:Int))/\W'.cell? ⟨w.heap.size+1+1,0,none⟩=some (.slice (some ⟨w.heap.size+1,0,none⟩) n n)/\W'.cell? ⟨w.heap.size+1+1+1,0,none⟩=some (.int .u64 (t:Int))) hmx Gj ⟨a1,a3,a4⟩ (λ_=>?_);refine Zin 8 [0,1,2,3,4,5,6,7] rfl Gj ⟨a1,a3,a4⟩ ?_
  iterate 8 (refine tkA ?_;try simp only[QP,Zf6,Zfl,Zfx,Gr,Gq,Gp])
  refine tk0 ?_;refine Zr (i:=8) rfl Gj Gj (λK hK=>?_);go_simp;refine hK.out _ _ ?_;clear hK K
  try simp only[QP,Zf6,Zfl,Zfx]
  refine wpAnyL_fin ?_;generalize u:World.drew (World.setCell W1 _ _)=W2;have b1:W2.cell? ⟨w.heap.size,0,none⟩=some (.int .i64 (s:Int)):=by rw[<- u];exact(Qd _ _ _ _ Gf).trans a1
  have b4:W2.cell? ⟨w.heap.size+1+1+1,0,none⟩=some (.int .u64 (t:Int)):=by rw[<- u];exact(Qd _ _ _ _ Gf).trans a4
  have h4:W2.frozen? ⟨w.heap.size+1+1+1,0,none⟩=false:=by rw[<- u];exact(World.frozen?_setCell _ _ _ _).trans g4
  replace u:=Zb u;clear a1 a2 a3 a4 g2 g4 c1 c2 c3 c4 f2 f4
  gi_wp2
  refine Za6 [6] (λW'=>W'.cell? ⟨w.heap.size,0,none⟩=some (.int .i64 (s:Int))/\W'.cell? ⟨w.heap.size+1+1+1,0,none⟩=some (.int .u64 (t:Int))) hmx Gj ⟨b1,b4⟩ (λ_=>?_);refine Zin 6 [0,1,2,3,4,5] rfl Gj ⟨b1,b4⟩ ?_
  iterate 6 (refine tkA ?_;try simp only[QP,Zf6,Zfl,Zfx,Gr,Gq,Gp])
  refine tk0 ?_;refine Zr (i:=6) rfl Gj Gj (λK hK=>?_);go_simp;refine hK.out _ _ ?_;clear hK K
  try simp only[QP,Zf6,Zfl,Zfx]
  refine wpAnyL_fin ?_;generalize hW3:World.drew (World.setCell W2 _ _)=W3
  gi_wp2
  have hp:=hp.out;have ht:=ht.out;have z0:((2:Int)^s)=(p:Int):=by rw[<- hp];push_cast;rfl
  have z1:IntKind.u32.wrap ((t:Int)/2^s)=((t/p:Nat):Int):=by
   rw[z0,show (t:Int)/(p:Int)=((t/p:Nat):Int) from rfl];generalize t/p=z at *;simp only[IntKind.wrap_u32];omega
  have z2:bits BinOp.and IntKind.u64 (t:Int) (IntKind.u64.wrap (IntKind.u64.wrap (2^s)-1))=((t%p:Nat):Int):=by
   rw[z0,show IntKind.u64.wrap (IntKind.u64.wrap (p:Int)-1)=((p-1:Nat):Int) by simp only[Yf];omega,u64_and_nat _ _ Gk Gk,<- hp,Nat.and_two_pow_sub_one_eq_mod]
  have f:=f.out;have u:=u.out;rw[z1]at u;rw[z2]at hW3;have hr:t%p<p:=Yc _ J;have he:t/p*p+t%p=r*4294967296+l[i]?.getD 0:=by rw[ht,Qp];exact QR _ _
  generalize t/p=q at *;generalize t%p=r' at *;subst hp;subst f;subst u;subst hW3;refine⟨((KeepsOthers.setCell _ _ _).trans ((KeepsOthers.setCell _ _ _).trans (KeepsOthers.drew _))).trans ((KeepsOthers.setCell _ _ _).trans (KeepsOthers.drew _)),((KpD.set_ (w:=w) (o:=0) hl Gk Gk (.int .u64 (t:Int))).trans (KpD.set_ (w:=w) (o:=i) hl Gk Gk (limb q))).trans (KpD.set_ (w:=w) (o:=0) hl Gk Gk (.int .u64 (r':Int))),?_,?_⟩
  ·refine DownI.step (x:=⟨i,C⟩) (((((k1.far Gf _).far Gf _).drewN 1).far Gf _).drewN 1) ?_ (((((k3.far Gf _).far Gf _).drewN 1).far Gf _).drewN 1) (((((k4.set_ 0 (.int .u64 (t:Int))).far Gf _).drewN 1).set_ 0 (.int .u64 (r':Int))).drewN 1) k5.out k6 a5 hr hl.len O k8.out he
   have:=((((k2.far (p:=⟨w.heap.size+1+1+1,0,none⟩) Gf (.int .u64 (t:Int))).set_ i (limb q)).drewN 1).far (p:=⟨w.heap.size+1+1+1,0,none⟩) Gf (.int .u64 (r':Int))).drewN 1;rw[Zbw]at this;exact this
  exact Zg ((Zg ((hB.setCell (p:=⟨w.heap.size+1+1+1,0,none⟩) Gf _).setCell (p:=⟨w.heap.size+1,i,none⟩) Gf _) 1).setCell (p:=⟨w.heap.size+1+1+1,0,none⟩) Gf _) 1
 case done =>
  rintro D ys W hD rfl ⟨⟨o,r,k1,k2,k3,k4,k5,k6,k7,k8⟩,hB⟩ hK;have k8:=k8 (by rw[Zc6 (Qb _)]);rw[Zc6 (Qb _),Nat.sub_self,QI,QI]at k8;obtain⟨e1,e2⟩:=Znp (U:=val l) (V:=2^s) (q:=val o) (R:=r) Gk k7;have a0:=Lim.of_blk k2 k6 (by rw[k5];unfold maxLen;omega);rw[k5]at a0;replace k8:=Zb k8;replace k5:=Zb k5;replace e1:=Zb e1;clear e2;have c3:=k3.cell 0;have c4:=k4.cell 0;simp at c3 c4
  gi_wp2
  refine wpIn_wide.2 ?_
  go_quiet (fail)
  gi_wp2
  have dJ:(W.drewN nq).heap[D]?=some (.deferred (some [])):=hK;refine⟨by simp,.inl ⟨_,_,rfl,run_takeDeferred dJ,?_⟩⟩;have a7:=Zgd (a0.drewN nq) (grownBy_putObj' (W.drewN nq) D (.deferred none)) (λr e=>by cases e;exact⟨_,dJ,rfl⟩);refine⟨.tuple #[.slice (some ⟨w.heap.size+1,0,none⟩) n n,.bool (decide ((0:Int)<r))],by simp[results,Tryz.f141,go_sem],⟨_,_,_,_,_,rfl,a7,e1.out,?_⟩⟩;exact Ii
 case stop =>
  rintro D c pre W _ _ h _;exact h.elim
theorem Gs {w w' w'':World}(h:Below w.heap.size w w')(k:Below w'.heap.size w' w''):Below w.heap.size w w'':=h.trans (k.mono h.size)
theorem Gn {w w' w'':World}(h:Hid (Below w.heap.size w w'))(k:Below w'.heap.size w' w''):Hid (Below w.heap.size w w''):=Zb (h.out.trans (k.mono h.out.size))
theorem Gl {w Y:World}{o:Obj}(h:w.alloc o=Y):Below w.heap.size w Y:=h▸(Below.refl _ _).alloc (Nat.le_refl _) _
theorem Gm {w w':World}{g:Nat}{t:TypeId}{cs:Array Value}(b:Below w.heap.size w w')(h:Hid (Blk w g t cs)):Hid (Blk w' g t cs):=Zc b h
