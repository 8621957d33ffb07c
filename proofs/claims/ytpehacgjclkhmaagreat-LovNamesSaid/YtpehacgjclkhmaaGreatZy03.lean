/- Equality of states and of their places. Division of limbs: -/
import Derived.ChangeKeysEq
import Derived.Laws.StructEq
import Derived.Maps.AppendAt
import Derived.Deep.AppendLies
import Derived.RegionTactic
import Derived.OwnWalk
import Derived.BigQuiet
import Derived.Deep.QuietTactic
import Derived.Laws.IdiomCopy
import Derived.Deep.RegionHeld3
import Derived.RangeFuncCalls
import Derived.TacticsIn
import Derived.Test.YtpehacgjclkhmaaGreatZy02
set_option maxRecDepth 100000
set_option maxHeartbeats 2000000
set_option linter.unusedSimpArgs false
set_option linter.unusedVariables false
namespace Go.Proofs.YtpehacgjclkhmaaGreat
open Go.RowKit
theorem Zkm (k : Nat) (a b c a' b' c' : Int) (w : World) : (Op.equalIn (k + 2) 44 (.agg #[.int .i64 a,.int .i64 b,.int .i64 c]) (.agg #[.int .i64 a',.int .i64 b',.int .i64 c'])).run Tryz.prog w = .ok (decide (a = a') && decide (b = b') && decide (c = c')) w:=by
 have hu : Tryz.prog.underlying 44 = some (.array 3 2):=by kernel_rfl
 obtain ⟨i,hi⟩ : ∃ i,Tryz.prog.info? 2 = some i:=Option.isSome_iff_exists.1 (by kernel_rfl);rw [show k + 2 = (k + 1) + 1 from rfl,run_equalIn_array w (k + 1) _ _ hu hi]
 have h1 : Tryz.prog.cellsOf 2 = 1:=by kernel_rfl
 have h2 : Tryz.prog.underlying 2 = some (.int .i64):=by kernel_rfl
 rw [h1];simp only [Op.eqItems,List.range,List.range.loop];go_simp
 by_cases e1 : a = a' <;> by_cases e2 : b = b' <;> by_cases e3 : c = c' <;> simp [e1,e2,e3]
theorem Zp9 (a b c : Int) (w : World) : (Op.equalIn 10000 44 (.agg #[.int .i64 a,.int .i64 b,.int .i64 c]) (.agg #[.int .i64 0,.int .i64 0,.int .i64 0])).run Tryz.prog w = .ok (decide (a = 0) && decide (b = 0) && decide (c = 0)) w:=Zkm 9998 a b c 0 0 0 w
theorem Zht (t a b c d e f t' a' b' c' d' e' f' : Int) (w : World) : (Op.equalIn 10000 46 (.agg #[.int .i64 t,.int .i64 a,.int .i64 b,.int .i64 c,.int .i64 d,.int .i64 e,.int .i64 f]) (.agg #[.int .i64 t',.int .i64 a',.int .i64 b',.int .i64 c',.int .i64 d',.int .i64 e',.int .i64 f'])).run Tryz.prog w = .ok (decide (t = t') && (decide (a = a') && decide (b = b') && decide (c = c')) && (decide (d = d') && decide (e = e') && decide (f = f'))) w:=by
 have hS : Tryz.prog.underlying 46 = some (.struct (Tryz.prog.fieldsOf 46)):=by kernel_rfl
 have hp : Tryz.prog.stoodInHeld 46 = false:=by kernel_rfl
 have hA:=fun a b c a' b' c' w=>Zkm 9997 a b c a' b' c' w
 have h2 : Tryz.prog.underlying 2 = some (.int .i64):=by kernel_rfl
 rw [show (10000 : Nat) = 9999 + 1 from rfl,run_equalIn_agg w 9999 46 _ _ hS hp];simp only [Program.fieldsOf,Tryz.underlying46];go_simp
 by_cases e0 : t = t'
 case neg=>simp [e0]
 simp only [e0,if_true,decide_true,Bool.true_and]
 by_cases h1 : a = a' /\ b = b' /\ c = c'
 ·obtain ⟨rfl,rfl,rfl⟩:=h1
  by_cases h2 : d = d' /\ e = e' /\ f = f'
  ·obtain ⟨rfl,rfl,rfl⟩:=h2
   simp
  ·have : d = d' -> e = e' -> ¬ f = f':=fun x y z=>h2 ⟨x,y,z⟩
   have h3 : (decide (d = d') && decide (e = e') && decide (f = f')) = false:=by
    rw [Bool.eq_false_iff];intro h;simp at h;exact h2 ⟨h.1.1,h.1.2,h.2⟩
   simp only [imp_false,not_true,if_false,decide_true,Bool.true_and];rw [if_pos this,h3]
 ·have : a = a' -> b = b' -> ¬ c = c':=fun x y z=>h1 ⟨x,y,z⟩
  have h3 : (decide (a = a') && decide (b = b') && decide (c = c')) = false:=by
   rw [Bool.eq_false_iff];intro h;simp at h;exact h1 ⟨h.1.1,h.1.2,h.2⟩
  rw [if_pos this,h3];simp
theorem Zi4 {U V P uh v1 : Nat} (hv : 0 < v1) (hV : v1 * P <= V) (hU : U < (uh + 1) * P) : U / V <= uh / v1:=by
 rw [Nat.le_div_iff_mul_le hv];have h1 : U / V * V <= U:=Nat.div_mul_le_self U V;have h2 : U / V * (v1 * P) <= U / V * V:=Nat.mul_le_mul_left _ hV
 have h3 : U / V * v1 * P < (uh + 1) * P:=by rw [Nat.mul_assoc];omega
 have:=Nat.lt_of_mul_lt_mul_right h3;omega
theorem Zjz {U V P uh v1 q : Nat} (hV : v1 * P <= V) (hU : U < (uh + 1) * P) (hq : uh < q * v1) : U / V < q:=by
 rcases Nat.lt_or_ge (U / V) q with h | h
 ·exact h
 ·exfalso
  have h1 : U / V * V <= U:=Nat.div_mul_le_self U V;have h2 : q * (v1 * P) <= U / V * V:=Nat.mul_le_mul h hV;have h3 : (uh + 1) * P <= q * v1 * P:=Nat.mul_le_mul_right _ hq;rw [Nat.mul_assoc] at h3;omega
theorem Zf0 {u u0 v : List Nat} {i q carry borrow c lo d b : Nat} (hi : i < u.length)
    (hI : val (u.take i) + q * val (v.take i) = val (u0.take i) + pw i * (carry + borrow)) (ht : lo + 4294967296 * c = carry + q * v[i]?.getD 0) (hd : d + lo + borrow = u0[i]?.getD 0 + 4294967296 * b) :
    val ((u.set i d).take (i + 1)) + q * val (v.take (i + 1)) = val (u0.take (i + 1)) + pw (i + 1) * (c + b):=by
 rw [Zs,Zs v,Zs u0,List.take_set_of_le (Nat.le_refl i),List.getElem?_set_self hi,Z8,Nat.mul_add q];simp only [Option.getD_some]
 generalize v[i]?.getD 0 = x at *
 generalize u0[i]?.getD 0 = y at *
 generalize val (u.take i) = a at *
 generalize val (v.take i) = e at *
 generalize val (u0.take i) = f at *
 have e1 : q * (pw i * x) = pw i * (q * x):=by rw [Nat.mul_left_comm]
 rw [e1]
 have e2 : pw i * (q * x) + pw i * carry = pw i * lo + pw i * (4294967296 * c):=by rw [<- Nat.mul_add,<- Nat.mul_add,ht,Nat.add_comm]
 have e3 : pw i * d + pw i * lo + pw i * borrow = pw i * y + pw i * (4294967296 * b):=by rw [<- Nat.mul_add,<- Nat.mul_add,<- Nat.mul_add,hd]
 have e4 : 4294967296 * pw i * (c + b) = pw i * (4294967296 * c) + pw i * (4294967296 * b):=by rw [Nat.mul_add,Nat.mul_comm 4294967296 (pw i),Nat.mul_assoc,Nat.mul_assoc]
 rw [Nat.mul_add] at hI;rw [e4];omega
attribute [local go_sem] Zg
def MutL (w : World) (g off : Nat) (l : List Nat) : Prop:=∀ i,i < l.length -> w.cell? ⟨g,off + i,none⟩ = some (limb (l[i]?.getD 0)) /\ w.frozen? ⟨g,off + i,none⟩ = false
theorem MutL.set_ {w : World} {g off : Nat} {l : List Nat} (h : MutL w g off l) {i : Nat} (hi : i < l.length) (x : Nat) : MutL (w.setCell ⟨g,off + i,none⟩ (limb x)) g off (l.set i x):=fun j hj=>by
 rw [List.length_set] at hj;refine ⟨?_,by rw [World.frozen?_setCell];exact (h j hj).2⟩
 by_cases hji : j = i
 ·subst hji
  rw [Zgl _ hi];exact World.cell?_setCell_same _ _ _ (h j hj).1
 ·rw [getD_set_ne _ (fun e=>hji e.symm),World.cell?_setCell_other _ _ _ _ (by intro e;injection e with e1 e2;omega)]
  exact (h j hj).1
theorem Zeh {w w' : World} {g o : Nat} {u : Value} (h : w.grownBy w' (some g)) : w.grownBy (w'.setCell ⟨g,o,none⟩ u) (some g):=
 ⟨h.os,h.tape,h.output,by simpa using h.size,fun k hk hne=>(Below.heap_setCell w' ⟨g,o,none⟩ u k (fun e=>hne (by rw [e]))).trans (h.block k hk hne)⟩
def SubP (w : World) (g off n q : Nat) (u v : List Nat) (i cy b : Nat) (wr : World) : Prop:=
 ∃ l,MutL wr g off l /\ l.length = n + 1 /\ Lt32 l /\ (∀ j,i <= j -> l[j]?.getD 0 = u[j]?.getD 0) /\ val (l.take i) + q * val (v.take i) = val (u.take i) + pw i * (cy + b) /\ w.grownBy wr (some g)
theorem Zk6 {c x y : Nat} (hc : c < 4294967296) (hx : x < 4294967296) (hy : y < 4294967296) :
    IntKind.u64.wrap ((c : Int) + IntKind.u64.wrap ((x : Int) * y)) = ((c + x * y : Nat) : Int):=by
 have h : x * y <= 4294967295 * 4294967295:=Nat.mul_le_mul (by omega) (by omega)
 have e : (x : Int) * y = ((x * y : Nat) : Int):=by simp
 rw [e]
 generalize x * y = t at *
 simp only [IntKind.wrap_u64];omega
theorem Zjs (g off n c d q : Nat) (B : Option Addr) (u v : List Nat) (w : World) (hu : MutL w g off u) (hul : u.length = n + 1) (hut : Lt32 u) (hnc : n + 1 <= c) (hcm : c <= maxLen) (hn9 : n <= 1000000000)
    (hv : Lim w B n d v) (hB : ∀ b o,B = some ⟨b,o,none⟩ -> b ≠ g) (hq : q < 4294967296) :
    Calls Tryz.prog 175 #[.slice (some ⟨g,off,none⟩) (n + 1) c,.slice B n d,.int .u32 q] w fun e w'=>∃ b l,b <= 1 /\ e = .returned (.bool (decide (b = 0))) /\ MutL w' g off l /\ l.length = n + 1 /\ Lt32 l /\ val l + q * val v = val u + pw (n + 1) * b /\ w.grownBy w' (some g):=by
 unfold maxLen at hcm;have hnd:=hv.2.1;have hdm:=hv.2.2.1;unfold maxLen at hdm;have hvl:=Za hv.len;replace hul:=Za hul;go_enter Tryz.func175,Tryz.ntmps175
 go_wp2
 go_loopw [14,7,8] (fun iv cv bv wr=>∃ i cy b : Nat,i <= n /\ iv = .int .i64 i /\ cy < 4294967296 /\ cv = .int .u64 cy /\ b <= 1 /\ bv = limb b /\ SubP w g off n q u v i cy b wr) (fun iv _ _ _=>n - (intOf iv).toNat)
 case atStart=>exact ⟨0,0,0,Nat.zero_le _,rfl,by omega,rfl,Nat.zero_le _,rfl,u,hu,hul.out,hut,fun _ _=>rfl,by simp [val],World.grownBy.refl w _⟩
 case round =>
  obtain ⟨i,cy,b,hin,rfl,hcy,rfl,hb1,rfl,l,hl,hll,hlt,hsame,hI,hg⟩:=hrel;replace hll:=Za hll;replace hsame:=Za hsame;replace hI:=Za hI
  by_cases hi : i < n
  ·obtain ⟨bb,ob,rfl,hcb⟩:=hv.at_ hi
   have hbg:=hB bb ob rfl;have hcb':=(World.cell?_of_block (a:=⟨bb,ob + i,none⟩) (hg.block bb (Zr hcb) (fun e=>hbg (by injection e)))).trans hcb;have hx:=hv.lt.get i;have hy:=hut.get i;obtain ⟨hcu,hfu⟩:=hl i (by rw [hll.out];omega);rw [hsame.out i (Nat.le_refl _)] at hcu
   have hlen9 : i < l.length:=by rw [hll.out];omega
   go_wp2_with fail;rw [Zk6 hcy hq hx,Zlg]
   have htb : cy + q * v[i]?.getD 0 < 18446744073709551616:=by
    have h : q * v[i]?.getD 0 <= 4294967295 * 4294967295:=Nat.mul_le_mul (by omega) (by omega);omega
   obtain ⟨t,ht⟩ : ∃ t,cy + q * v[i]?.getD 0 = t:=⟨_,rfl⟩;rw [ht] at htb ⊢;replace ht:=Za ht;refine (Zes _ (t % 4294967296) _ _ hy (Nat.mod_lt _ (by decide)) hb1).mono ?_;rintro e w' ⟨dd,kk,rfl,hd,hk,he,rfl⟩;replace he:=Za he;go_wp2_with fail
   go_roundw
   case rel =>
    rw [Zln];refine ⟨i + 1,_,kk,by omega,by go_num,by omega,rfl,hk,rfl,l.set i dd,hl.set_ hlen9 dd,by rw [List.length_set];exact hll.out,hlt.set i hd,fun j hj=>?_,?_,Zeh hg⟩
    ·rw [getD_set_ne _ (by omega)];exact hsame.out j (by omega)
    ·exact Zf0 hlen9 hI.out (lo:=t % 4294967296) (by rw [ht.out];omega) (by have:=he.out;omega)
   case measure=>simp [intOf];omega
  ·obtain rfl : i = n:=by omega
   have hy:=hut.get i;obtain ⟨hcu,hfu⟩:=hl i (by rw [hll.out];omega);rw [hsame.out i (Nat.le_refl _)] at hcu
   have hlen9 : i < l.length:=by rw [hll.out];omega
   have hcc : ((cy : Int)) % 4294967296 = (cy : Int):=by omega
   go_wp2_with fail;refine (Zes _ cy _ _ hy hcy hb1).mono ?_;rintro e w' ⟨dd,kk,rfl,hd,hk,he,rfl⟩
   have hfin : Hid (val (l.set i dd) + q * val v = val u + pw (i + 1) * kk):=by
    have h1:=Zf0 (v:=v) (q:=q) (lo:=cy) (c:=0) hlen9 hI.out (by rw [getD_none (by rw [hvl.out];exact Nat.le_refl _)];omega) he;rw [Zu (by rw [List.length_set,hll.out];exact Nat.le_refl _),Zu (by rw [hvl.out];omega),Zu (by rw [hul.out];exact Nat.le_refl _),Nat.zero_add] at h1;exact h1
   have hM:=hl.set_ hlen9 dd;have hL:=hlt.set i hd;have hG:=Zeh (o:=off + i) (u:=limb dd) hg
   have hlen2 : Hid ((l.set i dd).length = i + 1):=by unfold Hid;rw [List.length_set];exact hll.out
   replace he:=Za he;clear hl hlt
   rcases Nat.eq_zero_or_pos kk with rfl | h0
   ·go_wp2_with fail
    go_returns;exact ⟨0,_,by omega,rfl,hM,hlen2.out,hL,hfin.out,hG⟩
   ·obtain rfl : kk = 1:=by omega
    go_wp2_with fail;go_returns;exact ⟨1,_,by omega,rfl,hM,hlen2.out,hL,hfin.out,hG⟩
def Reads (w : World) (B size : Nat) (A : Option Addr) (n : Nat) (xs : List Value) : Prop:=
 xs.length = n * size /\ (0 < n -> ∃ ad,A = some ad /\ ad.block < B /\ ∀ j u,xs[j]? = some u -> w.cell? (ad.add j) = some u)
section
variable {w w' : World} {B B' size n : Nat} {A : Option Addr} {xs : List Value}
theorem Reads.keep (h : Reads w B size A n xs) (hk : ∀ p : Addr,p.block < B -> w'.cell? p = w.cell? p) : Reads w' B size A n xs:=
 ⟨h.1,fun hn=>by
  obtain ⟨ad,e,hb,hc⟩:=h.2 hn
  exact ⟨ad,e,hb,fun j u hu=>(hk _ (by rw [Zju];exact hb)).trans (hc j u hu)⟩⟩
theorem Reads.alloc (h : Reads w B size A n xs) (hB : B <= w.heap.size) (o : Obj) : Reads (w.alloc o) B size A n xs:=h.keep fun p hp=>World.cell?_alloc_lt w o p (by omega)
end
section
variable {P : Program} (w : World)
theorem Zbi (base : Nat) (t ty e : TypeId) (i : TypeInfo) (size : Nat) (ht : P.underlying t = some (.slice e)) (hi : P.info? e = some i)
    (v : Value) (n : Nat) (xs : List Value) (hown : w.ownsRow base e size v n xs) (c : Nat) : (Builtin.append_ #[t,t] ty #[v,.slice none 0 c]).run P w = .ok v w:=by
 rcases hown.2 with ⟨rfl,rfl⟩ | ⟨g,cap,cur,rfl,_,_,hnc,_⟩
 ·simp [Builtin.append_,run_underlying ht,sizeOf,typeInfo,hi,Builtin.lenOf,Builtin.firstCells]
 ·simp [Builtin.append_,run_underlying ht,sizeOf,typeInfo,hi,Builtin.lenOf,Builtin.firstCells,hnc,storeCells]
theorem Zgz (base : Nat) (t ty e : TypeId) (i : TypeInfo) (z : Value) (size bytes : Nat) (ht : P.underlying t = some (.slice e)) (hi : P.info? e = some i) (hz : i.zero = some z)
    (hsize : i.size = size) (hby : i.bytes = bytes) (hzs : z.cells.size = size) (hsz : 0 < size)
    (v : Value) (n : Nat) (xs : List Value) (hown : w.ownsRow base e size v n xs)
    (B : Nat) (A : Option Addr) (m c : Nat) (news : List Value) (hr : Reads w B size A m news) (h1 : ∀ u ∈ news,u.oneCell' = true)
    (h63 : n + m <= maxLen) (hbytes : (n + m) * bytes <= 140737488355328) (hbase : base <= w.heap.size) :
    ∃ v' w',(Builtin.append_ #[t,t] ty #[v,.slice A m c]).run P w = .ok v' w' /\ w'.ownsRow base e size v' (n + m) (xs ++ news) /\ w.grownBy w' v.ownBlock /\
     (v'.ownBlock = v.ownBlock \/ v'.ownBlock = some w.heap.size):=by
 rcases A with _ | ad
 ·have hm : m = 0:=by
    rcases Nat.eq_zero_or_pos m with h0 | h0
    ·exact h0
    ·obtain ⟨ad,h,_⟩:=hr.2 h0
     cases h
  subst hm;have hn : news = []:=List.eq_nil_of_length_eq_zero (by simpa using hr.1);subst hn;exact ⟨v,w,Zbi w base t ty e i size ht hi v n xs hown c,by simpa using hown,World.grownBy.refl w _,.inl rfl⟩
 ·have hcells : ∀ j u,news[j]? = some u -> w.cell? (ad.add j) = some u:=by
    intro j u hu
    rcases Nat.eq_zero_or_pos m with h0 | h0
    ·subst h0
     have hn : news = []:=List.eq_nil_of_length_eq_zero (by simpa using hr.1);subst hn
     simp at hu
    ·obtain ⟨ad',h,_,hc⟩:=hr.2 h0
     injection h with h
     subst h;exact hc j u hu
  obtain ⟨v',w',hrun,h2,h3,_,h5⟩:=run_append_own_at (P:=P) w base t ty e i z size bytes ht hi hz hsize hby hzs hsz v n xs hown ad m c news hr.1 hcells h1 h63 hbytes hbase;exact ⟨v',w',hrun,h2,h3,h5⟩
theorem Zii {o : Oper} {a : Act} {K : Act -> World -> Prop} {Q : Exit -> Act -> World -> Prop} (s x : Operand) (t : TypeId)
    (ho : o.op = .call { callee:=.builtin .append,args:=#[s,x],argTypes:=#[t,t] })
    (base : Nat) (e : TypeId) (i : TypeInfo) (z : Value) (size bytes : Nat) (ht : P.underlying t = some (.slice e)) (hi : P.info? e = some i) (hz : i.zero = some z)
    (hsize : i.size = size) (hby : i.bytes = bytes) (hzs : z.cells.size = size) (hsz : 0 < size)
    (v : Value) (n : Nat) (xs : List Value) (hs : a.eval s = v) (hown : w.ownsRow base e size v n xs)
    (B : Nat) (A : Option Addr) (m c : Nat) (news : List Value) (hx : a.eval x = .slice A m c) (hr : Reads w B size A m news) (h1 : ∀ u ∈ news,u.oneCell' = true)
    (h63 : n + m <= maxLen) (hbytes : (n + m) * bytes <= 140737488355328) (hbase : base <= w.heap.size)
    (h : ∀ v' w',w'.ownsRow base e size v' (n + m) (xs ++ news) -> w.grownBy w' v.ownBlock -> (v'.ownBlock = v.ownBlock \/ v'.ownBlock = some w.heap.size) -> K (a.put o.dst v') w') : o.wp P a w K Q:=by
 obtain ⟨v',w',hrun,h2,h3,h4⟩:=Zgz (P:=P) w base t o.type e i z size bytes ht hi hz hsize hby hzs hsz v n xs hown B A m c news hr h1 h63 hbytes hbase;unfold Oper.wp execOp;simp only [ho,resolve,invoke,builtin,Sem.run_bind,Sem.run_pure,Result.andThen_ok,List.map_toArray,List.map_cons,List.map_nil,hs,hx,hrun];exact h v' w' h2 h3 h4
theorem Zj {ops : Array Oper} {rest : List Oper} {o : Oper} {a : Act} {Q : Exit -> Act -> World -> Prop} (hgd : o.guard = none) (s x : Operand) (t : TypeId)
    (ho : o.op = .call { callee:=.builtin .append,args:=#[s,x],argTypes:=#[t,t] })
    (base : Nat) (e : TypeId) (i : TypeInfo) (z : Value) (size bytes : Nat) (ht : P.underlying t = some (.slice e)) (hi : P.info? e = some i) (hz : i.zero = some z)
    (hsize : i.size = size) (hby : i.bytes = bytes) (hzs : z.cells.size = size) (hsz : 0 < size)
    (v : Value) (n : Nat) (xs : List Value) (hs : a.eval s = v) (hown : w.ownsRow base e size v n xs)
    (B : Nat) (A : Option Addr) (m c : Nat) (news : List Value) (hx : a.eval x = .slice A m c) (hr : Reads w B size A m news) (h1 : ∀ u ∈ news,u.oneCell' = true)
    (h63 : n + m <= maxLen) (hbytes : (n + m) * bytes <= 140737488355328) (hbase : base <= w.heap.size)
    (h : ∀ v' w',w'.ownsRow base e size v' (n + m) (xs ++ news) -> w.grownBy w' v.ownBlock -> (v'.ownBlock = v.ownBlock \/ v'.ownBlock = some w.heap.size) -> wpList P ops Q rest (a.put o.dst v') w') : wpList P ops Q (o :: rest) a w:=
 wpList_plain hgd fun _ hK=>Zii w s x t ho base e i z size bytes ht hi hz hsize hby hzs hsz v n xs hs hown B A m c news hx hr h1 h63 hbytes hbase fun v' w' h2 h3 h4=>hK _ _ (h v' w' h2 h3 h4)
end
theorem Lim.reads {w : World} {A : Option Addr} {n c : Nat} {l : List Nat} (h : Lim w A n c l) : Reads w w.heap.size 1 A n (l.map limb):=
 ⟨by simp [h.len],fun hn=>by
  obtain ⟨b,o,e,hc⟩:=h.2.2.2.2 hn;refine ⟨_,e,Zr (hc 0 hn),fun j u hu=>?_⟩;rw [Zg]
  have hj : j < n:=by
   rcases Nat.lt_or_ge j n with h' | h'
   ·exact h'
   ·rw [List.getElem?_eq_none (by simp [h.len];exact h')] at hu;cases hu
  rw [hc j hj];rw [List.getElem?_map,List.getElem?_eq_getElem (by rw [h.len];exact hj)] at hu;rw [List.getElem?_eq_getElem (by rw [h.len];exact hj)]
  simpa using hu⟩
def OwnL (t : TypeId) (w : World) (base : Nat) (v : Value) (l : List Nat) : Prop:=w.ownsRow base t 1 v l.length (l.map limb) /\ Lt32 l
theorem OwnL.nil (t : TypeId) (w : World) (base : Nat) : OwnL t w base (.slice none 0 0) []:=⟨World.ownsRow_nil _ _ _ _,Lt32.nil⟩
theorem OwnL.lim {t : TypeId} {w : World} {base : Nat} {v : Value} {l : List Nat} (h : OwnL t w base v l) : ∃ A c,v = .slice A l.length c /\ Lim w A l.length c l:=by
 obtain ⟨h1,h2⟩:=h
 rcases h1.2 with ⟨hv,h0⟩ | ⟨g,cap,cur,hv,_,hh,hnc,hcm,hcs,ht⟩
 ·have : l = []:=List.eq_nil_of_length_eq_zero h0
  subst this;exact ⟨none,0,hv,Lim.nil _ _ _ (Nat.zero_le _)⟩
 ·refine ⟨_,cap,hv,rfl,hnc,hcm,h2,fun _=>⟨g,0,rfl,fun k hk=>?_⟩⟩
  rw [Nat.zero_add,cell_of_row w g k cur t (0,0) hh]
  have h3 : (cur.toList.take (l.length * 1))[k]? = (l.map limb)[k]?:=by rw [ht]
  rw [List.getElem?_take,if_pos (by omega),List.getElem?_map,List.getElem?_eq_getElem hk] at h3;rw [List.getElem?_eq_getElem hk]
  simpa using h3
theorem OwnL.append {t : TypeId} {w' : World} {base : Nat} {v' : Value} {l m : List Nat} {n k : Nat} (hn : n = l.length) (hk : k = m.length) (h : w'.ownsRow base t 1 v' (n + k) (l.map limb ++ m.map limb)) (hl : Lt32 l) (hm : Lt32 m) : OwnL t w' base v' (l ++ m):=by
 subst hn hk;refine ⟨?_,hl.append hm⟩;rw [List.length_append,List.map_append];exact h
theorem OwnL.row_ge {t : TypeId} {w : World} {base : Nat} {v : Value} {l : List Nat} (h : OwnL t w base v l) : ∀ k,v.ownBlock = some k -> base <= k:=fun k hk=>(h.1.lt k hk).1
theorem Zci (l : List Nat) : ∀ u ∈ l.map limb,u.oneCell' = true:=fun u hu=>by
 obtain ⟨x,_,rfl⟩:=List.mem_map.1 hu;rfl
theorem Zge (w : World) (t : TypeId) (size : Nat) : (w.alloc (.cells #[] t)).ownsRow w.heap.size t size (.slice (some ⟨w.heap.size,0,none⟩) 0 0) 0 []:=by
 have:=World.ownsRow_lit (base:=w.heap.size) (e:=t) (size:=size) w #[] 0 (Nat.le_refl _) (Nat.zero_le _) (by simp)
 simpa using this
theorem OutL.of_append {t : TypeId} {w w1 wb : World} {v1 : Value} {m : List Nat} {k : Nat} {P : List Nat -> Prop} {row : Option Nat} (h : w1.ownsRow w.heap.size t 1 v1 (0 + k) ([] ++ m.map limb)) (hk : m.length = k) (hm : Lt32 m)
    (hB : Below w.heap.size w wb) (hg : wb.grownBy w1 row) (hr : ∀ j,row = some j -> w.heap.size <= j) (hP : P m) : OutL w P (.returned v1) w1:=by
 have h2 : OwnL t w1 w.heap.size v1 ([] ++ m):=OwnL.append (l:=[]) rfl hk.symm h Lt32.nil hm;rw [List.nil_append] at h2;obtain ⟨A,c,rfl,hL⟩:=h2.lim;exact ⟨A,_,c,m,rfl,hL,hP,hB.grown hg hB.size hr⟩
theorem Zi {B : Nat} {a w : World} (h : Below B a w) (n : Nat) : Below B a (w.drewN n):=⟨h.os,h.tape,h.output,h.size,h.block⟩
theorem Zag (w : World) (x : Value) (t : TypeId) : Reads (w.alloc (.cells #[x] t)) (w.heap.size + 1) 1 (some ⟨w.heap.size,0,none⟩) 1 [x]:=
 ⟨rfl,fun _=>⟨_,rfl,Nat.lt_succ_self _,fun j u hu=>by
  cases j with
  | zero =>
   simp at hu;subst hu
   exact (Blk.new w t #[x]).cell 0
  | succ j=>simp at hu⟩⟩
theorem OwnL.snoc {t : TypeId} {w' : World} {base : Nat} {v' : Value} {l : List Nat} {n : Nat} {X : Int} {s : Nat} (hn : n = l.length) (h : w'.ownsRow base t 1 v' (n + 1) (l.map limb ++ [.int .u32 X])) (hl : Lt32 l) (hX : X = s) (hs : s < 4294967296) : OwnL t w' base v' (l ++ [s]):=by
 subst hX;exact OwnL.append (m:=[s]) hn rfl h hl (Lt32.cons hs Lt32.nil)
theorem Zbv (l : List Nat) (x : Nat) : val (l ++ [x]) = val l + pw l.length * x:=by rw [Ze7];simp [val]
theorem OutL.of_own {t : TypeId} {w w1 : World} {v1 : Value} {m : List Nat} {P : List Nat -> Prop} (h : OwnL t w1 w.heap.size v1 m) (hB : Below w.heap.size w w1) (hP : P m) : OutL w P (.returned v1) w1:=by
 obtain ⟨A,c,rfl,hL⟩:=h.lim;exact ⟨A,_,c,m,rfl,hL,hP,hB⟩
theorem OwnL.mut {t : TypeId} {w : World} {base : Nat} {v : Value} {l : List Nat} (h : OwnL t w base v l) (hn : 0 < l.length) : ∃ g cap,v = .slice (some ⟨g,0,none⟩) l.length cap /\ base <= g /\ g < w.heap.size /\ l.length <= cap /\ cap <= maxLen /\ MutL w g 0 l:=by
 rcases h.1.2 with ⟨hv,h0⟩ | ⟨g,cap,cur,hv,hg,hh,hnc,hcm,hcs,ht⟩
 ·omega
 ·refine ⟨g,cap,hv,hg,(Array.getElem?_eq_some_iff.1 hh).1,hnc,hcm,fun k hk=>⟨?_,?_⟩⟩
  ·rw [Nat.zero_add,cell_of_row w g k cur t (0,0) hh]
   have h3 : (cur.toList.take (l.length * 1))[k]? = (l.map limb)[k]?:=by rw [ht]
   rw [List.getElem?_take,if_pos (by omega),List.getElem?_map,List.getElem?_eq_getElem hk] at h3;rw [List.getElem?_eq_getElem hk]
   simpa using h3
  ·rw [Nat.zero_add]
   unfold World.frozen?;rw [hh]
   simp
def Zmc (w : World) (l : List Nat) (e : Ending) (w' : World) : Prop:=
 ∃ v,e = .returned v /\ OwnL 154 w' w.heap.size v l /\ Below w.heap.size w w'
theorem Zi7 (a : Addr) (n c : Nat) (l : List Nat) (w : World) (h : Reads w w.heap.size 1 (some a) n (l.map limb)) (hl : l.length = n) (hlt : Lt32 l) (hn9 : n <= 1000000000) (hnc : n <= c) (hcm : c <= maxLen) :
    Calls Tryz.prog 164 #[.slice (some a) n c] w (Zmc w l):=by
 obtain ⟨i0,hi,hz0,hz1,hz2⟩:=info_parts Zbt;unfold maxLen at hcm;replace hl:=Za hl
 have hcmp : ∀ W,(binOp BinOp.eql 25 (.slice (some a) n c) (.slice none 0 0)).run Tryz.prog W = .ok (.bool false) W:=fun _=>by kernel_rfl
 go_enter Tryz.func164,Tryz.ntmps164;go_wp2_with (go_loud (at_builtin;refine Zj _ rfl (.tmp 5) (.tmp 6) 25 rfl w.heap.size 154 i0 _ 1 4 Tryz.underlying25 hi hz0 hz1 hz2 rfl (by omega) (.slice (some ⟨w.heap.size,0,none⟩) 0 0) 0 [] rfl (Zge _ _ _) _ (some a) n c (l.map limb) rfl (by exact h.alloc (Nat.le_refl _) _) (Zci _) (by simp only [maxLen];omega) (by omega) (by simp) ?_;intro v1 w1 hown1 hg1 hat1));go_ret;have h2 : OwnL 154 w1 w.heap.size v1 ([] ++ l):=OwnL.append (l:=[]) rfl hl.out.symm hown1 Lt32.nil hlt;exact ⟨v1,rfl,h2,((Below.refl _ _).alloc (Nat.le_refl _) _).grown hg1 (by simp) (fun j hj=>by simp [Value.ownBlock] at hj;omega)⟩
theorem Zna (c : Nat) (w : World) : Calls Tryz.prog 164 #[.slice none 0 c] w (Zmc w []):=by
 have hcmp : ∀ W,(binOp BinOp.eql 25 (.slice none 0 c) (.slice none 0 0)).run Tryz.prog W = .ok (.bool true) W:=fun _=>by kernel_rfl
 go_enter Tryz.func164,Tryz.ntmps164
 go_wp2
 go_ret;exact ⟨_,rfl,OwnL.nil _ _ _,Below.refl _ _⟩
theorem Zeq (A : Option Addr) (n c : Nat) (l : List Nat) (w : World) (h : Lim w A n c l) (hn9 : n <= 1000000000) :
    Calls Tryz.prog 164 #[.slice A n c] w (Zmc w l):=by
 rcases A with _ | a
 ·have hn : n = 0:=by
    rcases Nat.eq_zero_or_pos n with h0 | h0
    ·exact h0
    ·obtain ⟨b,o,e,_⟩:=h.2.2.2.2 h0
     cases e
  subst hn;obtain rfl : l = []:=List.eq_nil_of_length_eq_zero h.len;exact Zna c w
 ·exact Zi7 a n c l w h.reads h.len h.lt hn9 h.2.1 h.2.2.1
theorem Zja (x y d : Nat) (w : World) (hx : x < d) (hy : y < 4294967296) (hd : d < 4294967296) :
    Calls Tryz.prog 174 #[limb x,limb y,limb d] w fun e w'=>e = .returned (.tuple #[limb ((x * 4294967296 + y) / d),limb ((x * 4294967296 + y) % d)]) /\ w' = w.drew:=by
 have d1 : ((d : Int) == 0) = false:=by simp;omega
 have d2 : decide ((d : Int) <= (x : Int)) = false:=by simp;omega
 have d3 : (d : Int) ≠ 0:=by omega
 have d2' : decide (d <= x) = false:=by simp;omega
 obtain ⟨t,ht⟩ : ∃ t,x * 4294967296 + y = t:=⟨_,rfl⟩
 have hor : bits .or .u64 ((x : Int) * 4294967296) (y : Int) = (t : Int):=by
  have h1 : ((x : Int) * 4294967296) = ((4294967296 * x : Nat) : Int):=by omega
  rw [h1,u64_or_nat _ _ (by omega) (by omega)];have h2:=Nat.two_pow_add_eq_or_of_lt (i:=32) (b:=y) (by omega) x;rw [show (2 : Nat) ^ 32 = 4294967296 by rfl] at h2;rw [<- h2];omega
 have hq : t / d < 4294967296:=by rw [Nat.div_lt_iff_lt_mul (by omega)];have:=Nat.mul_le_mul_left 4294967296 (show x + 1 <= d by omega);omega
 have hr : t % d < d:=Nat.mod_lt _ (by omega)
 have htb : t < 18446744073709551616:=by omega
 rw [ht];replace ht:=Za ht;go_enter Tryz.func174,Tryz.ntmps174;go_wp2_with fail
 go_region
 have e1 : IntKind.u64.wrap ((t : Int) / (d : Int)) % 4294967296 = ((t / d : Nat) : Int):=by
  rw [show (t : Int) / (d : Int) = ((t / d : Nat) : Int) from rfl]
  generalize t / d = z at *
  simp only [IntKind.wrap_u64];omega
 go_wp2_with fail
 go_ret2
 exact ⟨Ze8 e1 rfl,rfl⟩
theorem Zaj {l : List Nat} {k : Nat} (h : k < l.length) : val (l.drop k) = l[k]?.getD 0 + 4294967296 * val (l.drop (k + 1)):=by
 rw [List.drop_eq_getElem_cons h,val,List.getElem?_eq_getElem h];rfl
theorem Zjx {U V q R : Nat} (h : R + q * V = U) (hR : R < V) : q = U / V /\ R = U % V:=by
 subst h
 have hV : 0 < V:=by omega
 constructor
 ·rw [Nat.add_mul_div_right _ _ hV,Nat.div_eq_of_lt hR,Nat.zero_add]
 ·rw [Nat.add_mul_mod_self_right,Nat.mod_eq_of_lt hR]
theorem Zjf {U V q W : Nat} (hV : 0 < V) (h : W + q * V = U) (hq : U / V <= q) : q = U / V /\ W = U % V:=by
 have h1 : q <= U / V:=by rw [Nat.le_div_iff_mul_le hV];omega
 have h2 : q = U / V:=by omega
 refine ⟨h2,?_⟩;have h3:=Nat.div_add_mod U V;rw [<- h2,Nat.mul_comm V q] at h3;omega
theorem Zhn {U V q W M : Nat} (hV : 0 < V) (h : W + q * V = U + M) (hW : W < M) : U / V < q:=by
 rw [Nat.div_lt_iff_lt_mul hV];omega
theorem Zip {out l : List Nat} {k D r q r' : Nat} (ho : k < out.length) (hl : k < l.length) (hI : val (out.drop (k + 1)) * D + r = val (l.drop (k + 1))) (he : q * D + r' = r * 4294967296 + l[k]?.getD 0) :
    val ((out.set k q).drop k) * D + r' = val (l.drop k):=by
 rw [Zaj (l:=out.set k q) (by rw [List.length_set];exact ho),Zgl _ ho,List.drop_set_of_lt (by omega),Zaj hl,Nat.add_mul,<- hI,Nat.mul_add,Nat.mul_assoc];omega
theorem Zqt {r : List Nat} {i s : Nat} (hs : s <= 32) (hi : i < r.length) (hlt : Lt32 r) :
    val (r.drop i) / 2 ^ s = (r[i]?.getD 0 + 4294967296 * r[i + 1]?.getD 0) / 2 ^ s % 4294967296 + 4294967296 * (val (r.drop (i + 1)) / 2 ^ s):=by
 have hp : 0 < 2 ^ s:=Nat.pow_pos (by omega);have e1 : val (r.drop i) = r[i]?.getD 0 + 4294967296 * val (r.drop (i + 1)):=Zaj hi
 obtain ⟨t,e2⟩ : ∃ t,val (r.drop (i + 1)) = r[i + 1]?.getD 0 + 4294967296 * t:=by
  rcases Nat.lt_or_ge (i + 1) r.length with h | h
  ·exact ⟨_,Zaj h⟩
  ·exact ⟨0,by rw [List.drop_of_length_le h,getD_none h];rfl⟩
 have hx:=hlt.get i
 have hq : (4294967296 : Nat) = 2 ^ s * 2 ^ (32 - s):=by rw [<- Nat.pow_add,show s + (32 - s) = 32 by omega]
 have hb : 4294967296 * (val (r.drop (i + 1)) / 2 ^ s) = 4294967296 * (val (r.drop i) / 2 ^ s / 4294967296):=by
  congr 1
  rw [Nat.div_div_eq_div_mul,Nat.mul_comm (2 ^ s),<- Nat.div_div_eq_div_mul,e1]
  congr 1
  omega
 have ha : (r[i]?.getD 0 + 4294967296 * r[i + 1]?.getD 0) / 2 ^ s % 4294967296 = val (r.drop i) / 2 ^ s % 4294967296:=by
  rw [e1,e2]
  have : r[i]?.getD 0 + 4294967296 * (r[i + 1]?.getD 0 + 4294967296 * t) = (r[i]?.getD 0 + 4294967296 * r[i + 1]?.getD 0) + 2 ^ s * (2 ^ (32 - s) * t * 4294967296):=by
   have : 2 ^ s * (2 ^ (32 - s) * t * 4294967296) = (2 ^ s * 2 ^ (32 - s)) * t * 4294967296:=by grind
   rw [this,<- hq];omega
  rw [this,Nat.add_mul_div_left _ _ hp,Nat.add_mul_mod_self_right]
 rw [ha,hb];omega
def splice (u : List Nat) (k : Nat) (l : List Nat) : List Nat:=u.take k ++ l ++ u.drop (k + l.length)
theorem Zcj {u l : List Nat} {k : Nat} (h : k + l.length <= u.length) : (splice u k l).length = u.length:=by
 unfold splice;simp;omega
theorem Zox {u l : List Nat} {k : Nat} (hu : Lt32 u) (hl : Lt32 l) : Lt32 (splice u k l):=((hu.take _).append hl).append (hu.drop _)
theorem Zin {u l : List Nat} {k i : Nat} (h : k + l.length <= u.length) (hi : i < l.length) : (splice u k l)[k + i]?.getD 0 = l[i]?.getD 0:=by
 unfold splice;rw [List.getElem?_append_left (by simp;omega),List.getElem?_append_right (by simp;omega),List.length_take,Nat.min_eq_left (by omega),show k + i - k = i by omega]
theorem Zhh {u l : List Nat} {k j : Nat} (h : k + l.length <= u.length) (hj : j < k \/ k + l.length <= j) : (splice u k l)[j]?.getD 0 = u[j]?.getD 0:=by
 unfold splice
 rcases hj with hj | hj
 ·rw [List.append_assoc,List.getElem?_append_left (by simp;omega),List.getElem?_take,if_pos hj]
 ·rw [List.getElem?_append_right (by simp;omega),List.getElem?_drop]
  congr 2
  simp;omega
def DivI (A V n : Nat) (u q : List Nat) (j : Nat) : Prop:=
 Lt32 u /\ Lt32 q /\ u.length = q.length + n /\ j <= q.length /\ val u + V * val q = A /\ val (u.drop j) < V /\ ∀ i,i < j -> q[i]?.getD 0 = 0
theorem DivI.win {A V n : Nat} {u q : List Nat} {k : Nat} (h : DivI A V n u q (k + 1)) (hV : V <= pw n) : val ((u.drop k).take (n + 1)) = val (u.drop k) /\ val (u.drop k) < 4294967296 * V:=by
 obtain ⟨h1,h2,h3,h4,h5,h6,h7⟩:=h;have e:=Zaj (l:=u) (k:=k) (by omega);have hx:=h1.get k
 have hlt : val (u.drop k) < 4294967296 * V:=by omega
 refine ⟨?_,hlt⟩;have e2:=Zz (u.drop k) (n + 1) (by simp;omega)
 rcases Nat.eq_zero_or_pos (val ((u.drop k).drop (n + 1))) with h0 | h0
 ·rw [h0] at e2;omega
 ·have:=Nat.mul_le_mul_left (pw (n + 1)) h0
  rw [Z8] at this e2;have:=Nat.mul_le_mul_left 4294967296 hV;omega
theorem DivI.step {A V n : Nat} {u q l : List Nat} {k Q : Nat} (h : DivI A V n u q (k + 1)) (hV : V <= pw n) (hll : l.length = n + 1) (hl : Lt32 l) (hQ : Q < 4294967296)
    (hq : Q = val ((u.drop k).take (n + 1)) / V) (hr : val l = val ((u.drop k).take (n + 1)) % V) : DivI A V n (splice u k l) (q.set k Q) k:=by
 obtain ⟨hw,hlt⟩:=h.win hV;obtain ⟨h1,h2,h3,h4,h5,h6,h7⟩:=h
 have hV0 : 0 < V:=by omega
 have hk : k + l.length <= u.length:=by omega
 have ed : (splice u k l).drop k = l ++ u.drop (k + l.length):=by
  unfold splice;rw [List.append_assoc,List.drop_append_of_le_length (by simp;omega),List.drop_of_length_le (by simp;omega),List.nil_append]
 have e0 : val (u.drop (k + l.length)) = 0:=by
  have e2:=Zz (u.drop k) (n + 1) (by simp;omega);rw [hw,List.drop_drop,<- hll] at e2
  rcases Nat.eq_zero_or_pos (val (u.drop (k + l.length))) with h0 | h0
  ·exact h0
  ·have:=Nat.mul_le_mul_left (pw l.length) h0
   have:=Zdx l.length;omega
 have hvd : val ((splice u k l).drop k) = val l:=by rw [ed,Ze7,e0];omega
 refine ⟨Zox h1 hl,h2.set k hQ,by rw [Zcj hk,List.length_set];exact h3,by rw [List.length_set];omega,?_,by rw [hvd,hr];exact Nat.mod_lt _ hV0,fun i hi=>by rw [getD_set_ne _ (by omega)];exact h7 i (by omega)⟩;have e3:=Zz (splice u k l) k (by rw [Zcj hk];omega);have e4:=Zz u k (by omega)
 have e5 : (splice u k l).take k = u.take k:=by
  unfold splice;rw [List.append_assoc,List.take_append_of_le_length (by simp;omega),List.take_of_length_le (by simp;omega)]
 have e6:=Zep (l:=q) (k:=k) (by omega) Q;rw [h7 k (by omega),Nat.mul_zero,Nat.add_zero] at e6;have e7:=Nat.div_add_mod (val ((u.drop k).take (n + 1))) V;rw [<- hq,<- hr,hw] at e7;rw [e3,e5,hvd,e6,Nat.mul_add];rw [e4,<- e7,Nat.mul_add] at h5
 have : V * (pw k * Q) = pw k * (V * Q):=by grind
 omega
theorem DivI.start {a b : List Nat} {u : List Nat} {s n : Nat} (hu : val u = 2 ^ s * val a) (hul : u.length = a.length + 1) (hult : Lt32 u) (hn : n <= a.length) (halt : Lt32 a) (hb : pw (n - 1) <= val b) (hn0 : 0 < n) :
    DivI (2 ^ s * val a) (2 ^ s * val b) n u (List.replicate (a.length + 1 - n) 0) (a.length + 1 - n):=by
 refine ⟨hult,Lt32.replicate _,by simp;omega,by simp,by rw [Zch,hu];simp,?_,fun i _=>Zb8 _ _⟩;have e1:=Zz u (a.length + 1 - n) (by omega);have e2:=Zdc halt
 have e3 : pw a.length = pw (a.length + 1 - n) * pw (n - 1):=by rw [<- Zdr];congr 1;omega
 have hp : 0 < 2 ^ s:=Nat.pow_pos (by omega);have e4 : 2 ^ s * val a < 2 ^ s * pw a.length:=Nat.mul_lt_mul_of_pos_left e2 hp;have e5 : 2 ^ s * pw (n - 1) <= 2 ^ s * val b:=Nat.mul_le_mul_left _ hb
 have e6 : pw (a.length + 1 - n) * val (u.drop (a.length + 1 - n)) < pw (a.length + 1 - n) * (2 ^ s * pw (n - 1)):=by
  have : pw (a.length + 1 - n) * (2 ^ s * pw (n - 1)) = 2 ^ s * pw a.length:=by rw [e3];grind
  omega
 have:=Nat.lt_of_mul_lt_mul_left e6;omega
theorem DivI.stop {a b : Nat} {u q : List Nat} {s n : Nat} (h : DivI (2 ^ s * a) (2 ^ s * b) n u q 0) : val q = a / b /\ val u = 2 ^ s * (a % b):=by
 obtain ⟨h1,h2,h3,h4,h5,h6,h7⟩:=h;rw [List.drop_zero] at h6;have hp : 0 < 2 ^ s:=Nat.pow_pos (by omega);obtain ⟨e1,e2⟩:=Zjx (U:=2 ^ s * a) (V:=2 ^ s * b) (q:=val q) (R:=val u) (by rw [Nat.mul_comm (val q)];exact h5) h6;rw [Nat.mul_div_mul_left _ _ hp] at e1;rw [Nat.mul_mod_mul_left] at e2;exact ⟨e1,e2⟩
theorem Zcd {v : Nat} (h : 0 < (digits v).length) : (digits v)[(digits v).length - 1]?.getD 0 ≠ 0:=by
 intro h0;have h1:=Zd2 v;rw [List.getLast?_eq_getElem?] at h1;rw [List.getElem?_eq_getElem (by omega)] at h1 h0
 simp at h0
 rw [h0] at h1;exact h1 rfl
theorem Zkb {v : List Nat} {n : Nat} (hn : v.length = n) (h0 : 0 < n) : v[n - 1]?.getD 0 * pw (n - 1) <= val v:=by
 have e:=Zz v (n - 1) (by omega);rw [Zaj (by omega)] at e;rw [Nat.mul_add] at e;rw [Nat.mul_comm];omega
theorem Zny {u : List Nat} {n : Nat} (hn : u.length = n + 1) (h0 : 0 < n) (hlt : Lt32 u) : val u < (u[n]?.getD 0 * 4294967296 + u[n - 1]?.getD 0 + 1) * pw (n - 1):=by
 have e:=Zz u (n - 1) (by omega);rw [Zaj (by omega),show n - 1 + 1 = n by omega,Zaj (by omega),List.drop_of_length_le (by omega)] at e;have h1:=Zdc (hlt.take (n - 1));rw [List.length_take,Nat.min_eq_left (by omega)] at h1;rw [e];simp only [val]
 have : (u[n]?.getD 0 * 4294967296 + u[n - 1]?.getD 0 + 1) * pw (n - 1) = pw (n - 1) * (u[n - 1]?.getD 0 + 4294967296 * (u[n]?.getD 0 + 4294967296 * 0)) + pw (n - 1):=by grind
 omega
theorem top2_le {v : List Nat} {n : Nat} (hn : v.length = n) (h0 : 1 < n) : (v[n - 1]?.getD 0 * 4294967296 + v[n - 2]?.getD 0) * pw (n - 2) <= val v:=by
 have e:=Zz v (n - 2) (by omega);rw [Zaj (by omega),show n - 2 + 1 = n - 1 by omega,Zaj (by omega)] at e
 have : (v[n - 1]?.getD 0 * 4294967296 + v[n - 2]?.getD 0) * pw (n - 2) <= pw (n - 2) * (v[n - 2]?.getD 0 + 4294967296 * (v[n - 1]?.getD 0 + 4294967296 * val (v.drop (n - 1 + 1)))):=by
  rw [Nat.mul_comm];exact Nat.mul_le_mul_left _ (by omega)
 omega
theorem top3_lt {u : List Nat} {n : Nat} (hn : u.length = n + 1) (h0 : 1 < n) (hlt : Lt32 u) : val u < ((u[n]?.getD 0 * 4294967296 + u[n - 1]?.getD 0) * 4294967296 + u[n - 2]?.getD 0 + 1) * pw (n - 2):=by
 have e:=Zz u (n - 2) (by omega);rw [Zaj (by omega),show n - 2 + 1 = n - 1 by omega,Zaj (by omega),show n - 1 + 1 = n by omega,Zaj (by omega),List.drop_of_length_le (by omega)] at e;have h1:=Zdc (hlt.take (n - 2));rw [List.length_take,Nat.min_eq_left (by omega)] at h1;rw [e];simp only [val]
 have : ((u[n]?.getD 0 * 4294967296 + u[n - 1]?.getD 0) * 4294967296 + u[n - 2]?.getD 0 + 1) * pw (n - 2) = pw (n - 2) * (u[n - 2]?.getD 0 + 4294967296 * (u[n - 1]?.getD 0 + 4294967296 * (u[n]?.getD 0 + 4294967296 * 0))) + pw (n - 2):=by grind
 omega
theorem MutL.reads {w : World} {g off : Nat} {l : List Nat} (h : MutL w g off l) : Reads w w.heap.size 1 (some ⟨g,off,none⟩) l.length (l.map limb):=
 ⟨by simp,fun hn=>⟨_,rfl,by have:=Zr (h 0 hn).1;exact this,fun j u hu=>by
  rw [Zg]
  have hj : j < l.length:=by
   rcases Nat.lt_or_ge j l.length with h' | h'
   ·exact h'
   ·rw [List.getElem?_eq_none (by simpa using h')] at hu;cases hu
  rw [(h j hj).1];rw [List.getElem?_map,List.getElem?_eq_getElem hj] at hu;rw [List.getElem?_eq_getElem hj]
  simpa using hu⟩⟩
theorem MutL.below {w w' : World} {g off : Nat} {l : List Nat} (h : MutL w g off l) (hb : Below w.heap.size w w') : MutL w' g off l:=fun j hj =>
 ⟨Zb hb (h j hj).1,Zh hb (h j hj).1 (h j hj).2⟩
theorem MutL.win {w : World} {g off : Nat} {l : List Nat} (h : MutL w g off l) {k n : Nat} (hk : k + n <= l.length) : MutL w g (off + k) ((l.drop k).take n):=fun j hj=>by
 rw [List.length_take,List.length_drop] at hj;have:=h (k + j) (by omega);rw [List.getElem?_take,if_pos (by omega),List.getElem?_drop,Nat.add_assoc];exact this
theorem MutL.splice {w : World} {g : Nat} {u l : List Nat} {k : Nat} (h : MutL w g 0 u) (hk : k + l.length <= u.length) : MutL (w.setCells g k (l.map limb)) g 0 (splice u k l):=fun j hj=>by
 rw [Zcj hk] at hj;obtain ⟨h1,h2⟩:=h j hj;rw [Nat.zero_add] at h1 h2 ⊢;refine ⟨?_,by rw [World.frozen?_setCells];exact h2⟩
 by_cases hin : k <= j /\ j < k + l.length
 ·obtain ⟨i,rfl⟩ : ∃ i,j = k + i:=⟨j - k,by omega⟩
  rw [Zin hk (by omega)]
  have:=World.cell?_setCells_in g (l.map limb) k w (fun i hi=>by
   rw [List.length_map] at hi;have:=(h (k + i) (by omega)).1;rw [Nat.zero_add] at this
   rw [this];rfl) i (by rw [List.length_map];omega)
  rw [this]
  simp [List.getElem?_eq_getElem (show i < l.length by omega)]
 ·rw [Zhh hk (by omega),World.cell?_setCells_out g _ k w _ (fun _ _=>by rw [List.length_map];simp only [];omega)]
  exact h1
theorem Zov {P : Program} {f : FuncId} {args : Array Value} {w : World} {a n : Nat} {v : Value}
    (h : Calls P f args (w.drewN (a + n)) fun e w'=>e = .returned v /\ ∃ m,w' = (w.drewN (a + n)).drewN m) :
    Calls P f args (w.drewN (a + n)) fun e w''=>e = .returned v /\ ∃ m,w'' = w.drewN (a + m):=
 h.mono fun _ _ ⟨he,m,hm⟩=>⟨he,n + m,by rw [hm,World.drewN_drewN,Nat.add_assoc]⟩
theorem div32_q (x y d : Nat) (w : World) (hx : x < d) (hy : y < 4294967296) (hd : d < 4294967296) :
    Calls Tryz.prog 174 #[limb x,limb y,limb d] w fun e w'=>e = .returned (.tuple #[limb ((x * 4294967296 + y) / d),limb ((x * 4294967296 + y) % d)]) /\ ∃ m,w' = w.drewN m:=
 (Zja x y d w hx hy hd).mono fun _ _ ⟨he,hm⟩=>⟨he,1,hm⟩
def StepP (w : World) (g off : Nat) (u v : List Nat) (e : Ending) (w' : World) : Prop:=
 ∃ l w1,e = .returned (limb (val u / val v)) /\ l.length = u.length /\ Lt32 l /\ val l = val u % val v /\ Below w.heap.size w w1 /\ w' = w1.setCells g off (l.map limb)
theorem Zqh (g off n c d : Nat) (B : Option Addr) (u v : List Nat) (w : World) (hu : MutL w g off u) (hul : u.length = n + 1) (hut : Lt32 u) (hnc : n + 1 <= c) (hcm : c <= maxLen) (hn9 : n <= 1000000) (hn0 : 0 < n)
    (hv : Lim w B n d v) (hlt : val u < 4294967296 * val v) (htop : v[n - 1]?.getD 0 ≠ 0) :
    Calls Tryz.prog 167 #[.slice (some ⟨g,off,none⟩) (n + 1) c,.slice B n d] w (StepP w g off u v):=by
 unfold maxLen at hcm;have hnd:=hv.2.1;have hdm:=hv.2.2.1;unfold maxLen at hdm;have hvl:=hv.len;obtain ⟨bv,ov,rfl,hcv⟩:=hv.at_ (k:=n - 1) (by omega)
 have hV : 0 < val v:=by
  rcases Nat.eq_zero_or_pos (val v) with h0 | h0
  ·rw [h0] at hlt;omega
  ·exact h0
 obtain ⟨q,hq⟩ : ∃ q,val u / val v = q:=⟨_,rfl⟩
 have hqlt : q < 4294967296:=by rw [<- hq,Nat.div_lt_iff_lt_mul hV];exact hlt
 have hun:=hut.get n;have hun1:=hut.get (n - 1);have hvn:=hv.lt.get (n - 1);have hcu:=hu n (by omega);have hcu1:=hu (n - 1) (by omega)
 have hguess : u[n]?.getD 0 < v[n - 1]?.getD 0 -> q <= (u[n]?.getD 0 * 4294967296 + u[n - 1]?.getD 0) / v[n - 1]?.getD 0:=fun _=>by
  rw [<- hq];exact Zi4 (by omega) (Zkb hvl hn0) (Zny hul hn0 hut)
 have hglt : u[n]?.getD 0 < v[n - 1]?.getD 0 -> (u[n]?.getD 0 * 4294967296 + u[n - 1]?.getD 0) / v[n - 1]?.getD 0 < 4294967296:=fun h=>by
  rw [Nat.div_lt_iff_lt_mul (by omega)];have:=Nat.mul_le_mul_left 4294967296 (show u[n]?.getD 0 + 1 <= v[n - 1]?.getD 0 by omega);omega
 have HQ:=Za hq;have hfull:=Za hul;have hvl':=Za hvl;clear hq hul hvl;have hfz:=hcu.1;have hfz1:=hcu1.1;obtain ⟨x,hx⟩ : ∃ x,u[n]?.getD 0 = x:=⟨_,rfl⟩;obtain ⟨y,hy⟩ : ∃ y,u[n - 1]?.getD 0 = y:=⟨_,rfl⟩;obtain ⟨z,hz⟩ : ∃ z,v[n - 1]?.getD 0 = z:=⟨_,rfl⟩;rw [hx] at hun hfz;rw [hy] at hun1 hfz1;rw [hz] at hvn hcv htop;rw [hx,hy,hz] at hguess hglt;clear hx hy hz hcu hcu1
 by_cases hc : x < z
 all_goals
  first
  | (have hc' : decide (x < z) = true:=by simpa using hc)
  | (have hc' : decide (x < z) = false:=by simpa using hc)
  go_enter Tryz.func167,Tryz.ntmps167;go_wp2_with fail
  go_quiet (fail)
  go_wp2_with fail
  first
  | (go_quiet ((go_at_call 174;exact Zov (div32_q _ _ _ _ hc hun1 hvn))))
  | skip
  go_wp2_with fail
  go_loopw [6] (fun gv wr=>∃ gs : Nat,gv = limb gs /\ q <= gs /\ gs < 4294967296 /\ Below w.heap.size w wr) (fun gv _=>(intOf gv).toNat)
  case atStart=>first | exact ⟨_,rfl,hguess hc,hglt hc,Zi (Zi (Below.refl _ _) _) _⟩ | exact ⟨4294967295,rfl,by omega,by omega,Zi (Below.refl _ _) _⟩
  case round =>
   obtain ⟨gs,rfl,hg1,hg2,hB⟩:=hrel;clear hguess hglt hfz hfz1;have huM:=hu.below hB;have hvL:=hv.below hB;have hbv : bv < wr.heap.size:=Nat.lt_of_lt_of_le (Zr hcv) hB.size;have hgw : g < wr.heap.size:=Nat.lt_of_lt_of_le (Zr (hu 0 (by rw [hfull.out];omega)).1) hB.size
   have hrd : Reads wr wr.heap.size 1 (some ⟨g,off,none⟩) (n + 1) (u.map limb):=by have:=huM.reads;rw [hfull.out] at this;exact this
   go_wp2_with fail;refine (Zi7 ⟨g,off,none⟩ (n + 1) c u _ hrd hfull.out hut (by omega) hnc (by unfold maxLen;omega)).mono ?_;rintro e w1 ⟨v1,rfl,hown,hb1⟩;obtain ⟨g1,cap1,hv1,hg1',hg1s,hl1,hc1,hM1⟩:=hown.mut (by rw [hfull.out];omega);rw [hfull.out] at hv1 hl1;subst hv1;go_wp2_with fail;refine (Zjs g1 0 n cap1 d gs (some ⟨bv,ov,none⟩) u v _ hM1 hfull.out hut hl1 hc1 (by omega) (hvL.below hb1) (fun b o e=>by injection e with e;injection e with e1 e2;omega) hg2).mono ?_;rintro e w2 ⟨b,l,hb01,rfl,hM2,hll,hlt2,hI,hgr⟩;have hB2 : Below w.heap.size w w2:=(hB.trans (hb1.mono hB.size)).grown hgr (by have:=hb1.size;have:=hB.size;omega) (fun j hj=>by injection hj with hj;have:=hB.size;omega)
   rcases Nat.eq_zero_or_pos b with rfl | hb0
   ·obtain ⟨hit1,hit2⟩:=Zjf (U:=val u) (q:=gs) (W:=val l) hV (by rw [Nat.mul_zero] at hI;exact hI) (by rw [HQ.out];exact hg1)
    have hcopy : ∀ ty,(Builtin.copy_ #[25,25] ty #[.slice (some ⟨g,off,none⟩) (n + 1) c,.slice (some ⟨g1,0,none⟩) (n + 1) cap1]).run Tryz.prog w2 = .ok (goInt ((n + 1 : Nat) : Int)) (w2.setCells g off (l.map limb)):=fun ty=>by
     obtain ⟨i0,hi,hz0,hz1,hz2⟩:=info_parts Zbt
     have h:=run_copy_cells (P:=Tryz.prog) w2 25 25 ty 154 g off (n + 1) c ⟨g1,0,none⟩ (n + 1) cap1 (l.map limb) Tryz.underlying25 (by rw [hi];simp [hz1]) (by rw [List.length_map,hll];exact (Nat.min_self _).symm)
      (fun j x hx=>by
       have hj : j < l.length:=by
        rcases Nat.lt_or_ge j l.length with h' | h'
        ·exact h'
        ·rw [List.getElem?_eq_none (by simpa using h')] at hx;cases hx
       rw [Zg,(hM2 j hj).1];rw [List.getElem?_map,List.getElem?_eq_getElem hj] at hx;rw [List.getElem?_eq_getElem hj]
       simpa using hx)
      (fun j hj=>by
       rw [List.length_map,hll] at hj;have h3:=(huM j (by rw [hfull.out];exact hj)).1;have h4:=Zb hb1 h3
       rw [(World.cell?_of_block (a:=⟨g,off + j,none⟩) (hgr.block g (by have:=hb1.size;omega) (fun e=>by injection e with e;omega))),h4];rfl)
      (fun j hj=>by
       rw [List.length_map,hll] at hj;have h3:=huM j (by rw [hfull.out];exact hj);have h4:=Zh hb1 h3.1 h3.2
       rw [(World.frozen?_of_block (a:=⟨g,off + j,none⟩) (hgr.block g (by have:=hb1.size;omega) (fun e=>by injection e with e;omega))),h4])
      (Zci l)
     rw [List.length_map,hll] at h;exact h
    have hP : StepP w g off u v (.returned (limb gs)) (w2.setCells g off (l.map limb)):=⟨l,w2,by rw [hit1],by rw [hll,hfull.out],hlt2,hit2,hB2,rfl⟩;replace hP:=Za hP;clear hit1 hit2 hI hll;go_wp2_with fail;go_ret;exact hP.out
   ·obtain rfl : b = 1:=by omega
    have hmiss : q < gs:=by
     have:=Zhn (q:=gs) (W:=val l) (M:=pw (n + 1)) hV (by rw [Nat.mul_one] at hI;exact hI) (by have:=Zdc hlt2;rw [hll] at this;exact this);rw [HQ.out] at this;exact this
    clear hI hll;go_wp2_with fail
    go_roundw
    case rel=>exact ⟨gs - 1,by go_num,by omega,by omega,hB2⟩
    case measure=>simp [intOf];omega
def OnlyNormal (Q : Exit -> Act -> World -> Prop) : Exit -> Act -> World -> Prop
 | .normal,a,w=>Q .normal a w
 | _,_,_=>False
theorem OnlyNormal.no_out {Q : Exit -> Act -> World -> Prop} (h : LetsOut (OnlyNormal Q)) : False:=by
 obtain ⟨a,w,h⟩:=h;exact h
theorem OnlyNormal.normal {Q : Exit -> Act -> World -> Prop} {a : Act} {w : World} (h : Q .normal a w) : OnlyNormal Q .normal a w:=h
theorem Zap {l n : Nat} {P : Program} {ops : Array Oper} {Q : Exit -> Act -> World -> Prop} (hnd : ∀ (i : Nat) (o : Oper),ops[i]? = some o -> ∀ c,o.op ≠ .defer c) :
    ∀ (is : List Nat) (a : Act) (w : World),wpOps P ops (OnlyNormal Q) is a w -> wpOpsIn (Fence.wide.inRound l) n P ops Q is a w
 | [],_,_,h=>h
 | i :: rest,a,w,h=>by
  simp only [wpOps] at h;simp only [wpOpsIn]
  cases ho : ops[i]? with
  | none=>simp only [ho] at h ⊢;exact Zap hnd rest a w h
  | some o =>
   simp only [ho] at h ⊢
   by_cases hw : Region.wanted o (yielded ops a.tmps) = true
   ·simp only [hw,if_true] at h ⊢
    rcases h with h | ⟨_,h⟩
    ·refine ⟨fun _ _=>trivial,?_⟩
     rw [Oper.semAt_eq _ _ _ (hnd i o ho)];unfold Oper.wp at h
     generalize (execOp a.eval o).run P w = r at *
     cases r with
     | ok x w' =>
      cases x with
      | value v=>exact Zap hnd rest _ _ h
      | skip=>exact Zap hnd rest _ _ h
      | defer d=>exact Zap hnd rest _ _ h
      | enter f args =>
       refine ⟨(fun h=>by cases h),CallsIn.inRound l (callsIn_wide.2 (Calls.mono h fun e w'' he=>?_))⟩
       cases e with
       | returned v=>exact Zap hnd rest _ _ he
       | panicked c=>exact (he : False).elim
       | outgrown=>exact (OnlyNormal.no_out he).elim
      | row row args =>
       refine ⟨(fun h=>by cases h),fun c cs _=>?_⟩;obtain ⟨v,w'',hR,hs⟩:=h c cs;exact ⟨v,w'',Zap hnd rest _ _ hR,stepsIn_wide.2 hs⟩
      | _=>exact (h : False).elim
     | halt x w'=>cases x <;> exact (h : False).elim
    ·exact (OnlyNormal.no_out h).elim
   ·simp only [hw,if_false,Bool.false_eq_true] at h ⊢
    exact ⟨fun _ _=>trivial,Zap hnd rest _ _ h⟩
def Zfv (ops : Array Oper) : Bool:=ops.all fun o=>match o.op with | .defer _=>false | _=>true
theorem Zie {ops : Array Oper} (h : Zfv ops = true) : ∀ (i : Nat) (o : Oper),ops[i]? = some o -> ∀ c,o.op ≠ .defer c:=by
 intro i o ho c hc;unfold Zfv at h;rw [Array.all_eq_true] at h;obtain ⟨hi,rfl⟩:=Array.getElem?_eq_some_iff.1 ho;have:=h i hi;rw [hc] at this
 cases this
def Zb1 (L : List Nat) (listed : Array Bool) : Bool:=L.all fun k=>!(listed.getD k true)
def Z0 (P : Program) (md : Region.Mode) (ops : Array Oper) (Q : Exit -> Act -> World -> Prop) (L : List Nat) (S : World -> Prop) : Nat -> Array Bool -> Act -> World -> Prop
 | 0,listed,a,w=>Region.ready md ops listed = [] /\ Q .normal a w
 | fuel + 1,listed,a,w =>
  (Region.ready md ops listed = [] -> Q .normal a w) /\
  ∀ i ∈ Region.ready md ops listed,wpOp P ops Q i (fun a' w'=>(Zb1 L (listed.setIfInBounds i true) = true -> S w') /\ Z0 P md ops Q L S fuel (listed.setIfInBounds i true) a' w') a w
section
variable {P : Program} {ops : Array Oper} {Q : Exit -> Act -> World -> Prop} {md : Region.Mode} {L : List Nat} {S : World -> Prop}
theorem Ze6 : ∀ (fuel : Nat) (listed : Array Bool) (a : Act) (w : World),Z0 P md ops Q L S fuel listed a w -> wpAny P md ops Q fuel listed a w
 | 0,_,_,_,h=>h
 | fuel + 1,_,_,_,h=>⟨h.1,fun i hi=>wpOp_mono (fun a' w' h'=>Ze6 fuel _ a' w' h'.2) (h.2 i hi)⟩
theorem Zbl {listed : Array Bool} {j : Nat} (hj : j ∉ L) : Zb1 L (listed.setIfInBounds j true) = Zb1 L listed:=by
 unfold Zb1;rw [Bool.eq_iff_iff,List.all_eq_true,List.all_eq_true]
 have : ∀ k ∈ L,(listed.setIfInBounds j true).getD k true = listed.getD k true:=fun k hk=>Go.getD_set_ne true (fun e=>hj (e ▸ hk))
 constructor
 ·intro h k hk;rw [<- this k hk];exact h k hk
 ·intro h k hk;rw [this k hk];exact h k hk
def Zgh (md : Region.Mode) (ops : Array Oper) (L : List Nat) (i : Nat) : Bool:=L.all fun k=>k != i && (match ops[k]? with | some o=>o.after.any fun e=>Region.binds md e && e.on == i | none=>false)
theorem Zj9 {i : Nat} {oi : Oper} {v : Value} (hi : ops[i]? = some oi) (hsel : ∀ (j : Nat) (o : Oper) cs b,ops[j]? = some o -> o.op ≠ .select cs b)
    (hQ : ∀ c a w,Q (.panic c) (a.put oi.dst v) w -> Q (.panic c) a w) (hL : Zgh md ops L i = true) :
    ∀ (fuel : Nat) (listed : Array Bool) (a : Act) (w : World),
     (∀ j oj,ops[j]? = some oj -> j ≠ i -> listed.getD j true = false -> (∀ e ∈ oj.after,Region.binds md e = true -> e.on ≠ i) -> oi.apart ops oj = true) ->
     i ∈ Region.ready md ops listed -> YieldsIf P ops S oi v a -> Zb1 L listed = true -> S w ->
     Z0 P md ops Q L S fuel (listed.setIfInBounds i true) (a.put oi.dst v) w -> Z0 P md ops Q L S (fuel + 1) listed a w:=by
 have hiL : i ∉ L:=fun h=>by
  unfold Zgh at hL;rw [List.all_eq_true] at hL;have:=hL i h
  simp at this
 intro fuel
 induction fuel with
 | zero =>
  intro listed a w _ hr hy hn hS H;refine ⟨fun h=>(by rw [h] at hr;cases hr),fun j hj=>?_⟩
  by_cases hji : j = i
  ·subst hji;exact hy.wpOp hi hS ⟨fun _=>hS,H⟩
  ·have:=ready_mono hj hji
   rw [H.1] at this
   cases this
 | succ fuel ih =>
  intro listed a w hfree hr hy hn hS H;refine ⟨fun h=>(by rw [h] at hr;cases hr),fun j hj=>?_⟩
  by_cases hji : j = i
  ·subst hji;exact hy.wpOp hi hS ⟨fun _=>hS,H⟩
  ·have h1:=H.2 j (ready_mono hj hji)
   obtain ⟨hjun,oj,hoj,hall⟩:=mem_ready.1 hj
   have hnot : ∀ e ∈ oj.after,Region.binds md e = true -> e.on ≠ i:=fun e he hb heq=>by
    have h1:=hall e he hb;have h0:=(mem_ready.1 hr).1;rw [heq] at h1
    rcases Nat.lt_or_ge i listed.size with h' | h'
    ·simp [h'] at h0 h1;rw [h0] at h1;cases h1
    ·simp [Array.getElem?_eq_none h'] at h1
   have hjL : j ∉ L:=fun hjL=>by
    unfold Zgh at hL;rw [List.all_eq_true] at hL;have h2:=hL j hjL;rw [hoj] at h2;simp only [Bool.and_eq_true,Array.any_eq_true'] at h2;obtain ⟨_,e,he,h3,h4⟩:=h2;exact hnot e he h3 (by simpa using h4)
   have h2:=wpOp_putIf hoj (hfree j oj hoj hji hjun hnot) (fun cs b=>hsel i oi cs b hi) (fun cs b=>hsel j oj cs b hoj) hQ hy h1
   have hfree' : ∀ k ok,ops[k]? = some ok -> k ≠ i -> (listed.setIfInBounds j true).getD k true = false ->
       (∀ e ∈ ok.after,Region.binds md e = true -> e.on ≠ i) -> oi.apart ops ok = true:=fun k ok hk hki hun hno=>by
    refine hfree k ok hk hki ?_ hno
    by_cases hjk : j = k
    ·subst hjk;exact hjun
    ·rw [Go.getD_set_ne true hjk] at hun;exact hun
   have hn2 : Zb1 L (listed.setIfInBounds j true) = true:=by rw [Zbl hjL];exact hn
   refine wpOp_mono (fun a' w' h3=>⟨fun _=>h3.2.1 (by rw [Zbl hjL,Zbl hiL];exact hn),ih (listed.setIfInBounds j true) a' w' hfree' (ready_mono hr (Ne.symm hji)) h3.1 hn2 (h3.2.1 (by rw [Zbl hjL,Zbl hiL];exact hn)) ?_⟩) h2;rw [Array.setIfInBounds_comm _ _ hji];exact h3.2.2
theorem Zd {i : Nat} {oi : Oper} {v : Value} {fuel : Nat} {listed : Array Bool} {a : Act} {w : World} (hi : ops[i]? = some oi)
    (hs : Region.noSelect ops = true) (hf : Region.free md ops listed i = true) (hr : (Region.ready md ops listed).contains i = true) (hL : Zgh md ops L i = true) (hn : Zb1 L listed = true)
    (hy : YieldsIf P ops S oi v a) (hS : S w)
    (h : Z0 P md ops (OnlyNormal Q) L S fuel (listed.setIfInBounds i true) (a.put oi.dst v) w) : Z0 P md ops (OnlyNormal Q) L S (fuel + 1) listed a w:=
 Zj9 hi (Region.noSelect_spec hs) (fun _ _ _ h=>(h : False).elim) hL fuel listed a w (Region.free_spec hi hf) (by simpa using hr) hy hn hS h
theorem Ze {i : Nat} {o : Oper} {fuel : Nat} {listed : Array Bool} {a : Act} {w : World} (ho : ops[i]? = some o) (hr : Region.ready md ops listed = [i])
    (h : ∀ K' : Act -> World -> Prop,Shut (∀ a w,(Zb1 L (listed.setIfInBounds i true) = true -> S w) -> Z0 P md ops Q L S fuel (listed.setIfInBounds i true) a w -> K' a w) -> if Region.wanted o (yielded ops a.tmps) = true then Oper.wp P o a w K' Q else K' (a.put o.dst undef) w) :
    Z0 P md ops Q L S (fuel + 1) listed a w:=
 ⟨(fun h0=>by rw [h0] at hr;cases hr),fun j hj=>by
  rw [hr,List.mem_singleton] at hj;subst hj
  exact wpOp_step ho (fun K' hK=>h K' (fun a w hS hW=>hK a w ⟨hS,hW⟩))⟩
theorem Zt {i : Nat} {o : Oper} {fuel : Nat} {listed : Array Bool} {a : Act} {w : World} (ho : ops[i]? = some o) (hr : Region.ready md ops listed = [i]) (hn : Zb1 L (listed.setIfInBounds i true) = false)
    (h : ∀ K' : Act -> World -> Prop,Shut (∀ a w,Z0 P md ops Q L S fuel (listed.setIfInBounds i true) a w -> K' a w) -> if Region.wanted o (yielded ops a.tmps) = true then Oper.wp P o a w K' Q else K' (a.put o.dst undef) w) :
    Z0 P md ops Q L S (fuel + 1) listed a w:=
 Ze ho hr fun K hK=>h K fun a w hW=>hK a w (fun h=>by rw [hn] at h;cases h) hW
theorem Zl {listed : Array Bool} {a : Act} {w : World} (hr : Region.ready md ops listed = []) (h : Q .normal a w) : ∀ fuel,Z0 P md ops Q L S fuel listed a w
 | 0=>⟨hr,h⟩
 | _ + 1=>⟨fun _=>h,by rw [hr];simp⟩
end
theorem Zbz {l n : Nat} {P : Program} {id : Nat} {ops : Array Oper} {Q : Exit -> Act -> World -> Prop} {a : Act} {w : World} (L : List Nat) (S : World -> Prop) (hm : P.follows .mixedOrders = true) (hnd : Zfv ops = true)
    (hS : S w.drew) (h : S w.drew -> Z0 P .any ops (OnlyNormal Q) L S ops.size (Array.replicate ops.size false) a w.drew) : (Code.region id ops true).wpIn (Fence.wide.inRound l) n P Q a w:=
 wpIn_region_draw fun t=>Zap (Zie hnd) _ _ _ (by
  simp only [Region.schedule,hm,Bool.true_or,if_true]
  exact wpAny_sound ops.size t _ a _ (Ze6 _ _ _ _ (h hS)))
section
variable {P : Program} {ops : Array Oper} {Q : Exit -> Act -> World -> Prop} {md : Region.Mode} {L : List Nat} {S : World -> Prop} {R : Act -> Prop}
end
theorem putL_a {α : Type} (l : List α) (i : Nat) (a : α) : l.toArray.setIfInBounds i a = (l.set i a).toArray:=List.setIfInBounds_toArray l i a
theorem putG_a {α : Type} (l : List α) (i : Nat) (h : i < l.toArray.size) : l.toArray[i] = l[i]'(by simpa using h):=by simp
theorem putG_z {α : Type} (a : α) (l : List α) (h : 0 < (a :: l).length) : (a :: l)[0]'h = a:=rfl
theorem putG_s {α : Type} (a : α) (l : List α) (i : Nat) (h : i + 1 < (a :: l).length) : (a :: l)[i + 1]'h = l[i]'(by simpa using h):=rfl
theorem putL_z {α : Type} (a b : α) (l : List α) : (a :: l).set 0 b = b :: l:=rfl
theorem putL_s {α : Type} (a b : α) (l : List α) (n : Nat) : (a :: l).set (n + 1) b = a :: l.set n b:=rfl
def Zj5 (md : Region.Mode) (ops : Array Oper) (L : List Nat) : List Nat -> Array Bool -> Bool
 | [],_=>true
 | i :: is,l=>Region.free md ops l i && (Region.ready md ops l).contains i && Zgh md ops L i && Zb1 L l && Zj5 md ops L is (l.setIfInBounds i true)
def Zej (P : Program) (ops : Array Oper) (S : World -> Prop) : List Nat -> Act -> (Act -> Prop) -> Prop
 | [],a,R=>R a
 | i :: is,a,R=>∃ oi v,ops[i]? = some oi /\ YieldsIf P ops S oi v a /\ Zej P ops S is (a.put oi.dst v) R
def Zfx : List Nat -> Array Bool -> Array Bool
 | [],l=>l
 | i :: is,l=>Zfx is (l.setIfInBounds i true)
section
variable {P : Program} {ops : Array Oper} {Q : Exit -> Act -> World -> Prop} {md : Region.Mode} {L : List Nat} {S : World -> Prop} {R : Act -> Prop}
theorem tk0 {a : Act} (h : R a) : Zej P ops S [] a R:=h
theorem tk1 {i : Nat} {is : List Nat} {oi : Oper} {v : Value} {a : Act} (ho : ops[i]? = some oi) (hy : YieldsIf P ops S oi v a) (h : Zej P ops S is (a.put oi.dst v) R) : Zej P ops S (i :: is) a R:=⟨oi,v,ho,hy,h⟩
theorem Zjb (hs : Region.noSelect ops = true) {w : World} (hS : S w) : ∀ (is : List Nat) (F : Nat) (listed : Array Bool) (a : Act),Zj5 md ops L is listed = true -> Zej P ops S is a (fun a'=>Z0 P md ops (OnlyNormal Q) L S F (Zfx is listed) a' w) -> Z0 P md ops (OnlyNormal Q) L S (F + is.length) listed a w
 | [],F,l,a,_,h=>h
 | i :: is,F,l,a,hc,h=>by
  obtain ⟨oi,v,ho,hy,h2⟩:=h;simp only [Zj5,Bool.and_eq_true] at hc;exact Zd ho hs hc.1.1.1.1 hc.1.1.1.2 hc.1.1.2 hc.1.2 hy hS (Zjb hs hS is F _ _ hc.2 h2)
theorem Zrd {F : Nat} {listed : Array Bool} {a : Act} {w : World} (k : Nat) (is : List Nat) (hk : is.length = k) (hc : (Region.noSelect ops && Zj5 md ops L is listed) = true) (hS : S w)
    (h : Zej P ops S is a (fun a'=>Z0 P md ops (OnlyNormal Q) L S F (Zfx is listed) a' w)) : Z0 P md ops (OnlyNormal Q) L S (F + k) listed a w:=by
 rw [Bool.and_eq_true] at hc;subst hk;exact Zjb hc.1 hS is F listed a hc.2 h
end
end Go.Proofs.YtpehacgjclkhmaaGreat
