/- math/bits.Div32. Division of limbs: what the loops of -/
import Derived.BigQuiet
import Derived.Deep.QuietTactic
import Derived.Laws.IdiomCopy
import Derived.Deep.RegionHeld3
import Derived.RangeFuncCalls
import Derived.TacticsIn
import Derived.Shelf.RegionOpen
import Derived.Test.YthappeninglakaaZq07
set_option maxRecDepth 100000
set_option maxHeartbeats 2000000
set_option linter.unusedSimpArgs false
set_option linter.unusedVariables false
namespace Go.Proofs.Ythappeninglakaa
open Go.RowKit
attribute [local go_sem] Zj
theorem Zlq (x y d : Nat) (w : World) (hx : x < d) (hy : y < 4294967296) (hd : d < 4294967296) :
    Calls Try.prog 89 #[limb x,limb y,limb d] w fun e w'=>e = .returned (.tuple #[limb ((x * 4294967296 + y) / d),limb ((x * 4294967296 + y) % d)]) /\ w' = w.drew:=by
 have d1 : ((d : Int) == 0) = false:=by simp;omega
 have d2 : decide ((d : Int) <= (x : Int)) = false:=by simp;omega
 have d3 : (d : Int) ≠ 0:=by omega
 have d2' : decide (d <= x) = false:=by simp;omega
 obtain ⟨t,ht⟩ : ∃ t,x * 4294967296 + y = t:=⟨_,rfl⟩
 have hor : bits .or .u64 ((x : Int) * 4294967296) (y : Int) = (t : Int):=by
  have h1 : ((x : Int) * 4294967296) = ((4294967296 * x : Nat) : Int):=by omega
  rw [h1,u64_or_nat _ _ (by omega) (by omega)];have h2:=Nat.two_pow_add_eq_or_of_lt (i:=32) (b:=y) (by omega) x;rw [show (2 : Nat) ^ 32 = 4294967296 by rfl] at h2;rw [<- h2];omega
 have hq : t / d < 4294967296:=by rw [Nat.div_lt_iff_lt_mul (by omega)];have:=Nat.mul_le_mul_left 4294967296 (show x + 1 <= d by omega);omega
 have hr : t % d < d:=Nat.mod_lt _ (by omega)
 have htb : t < 18446744073709551616:=by omega
 rw [ht];replace ht:=Zb ht;go_enter Try.func89,Try.ntmps89;go_wp2_with fail
 go_region
 have e1 : IntKind.u64.wrap ((t : Int) / (d : Int)) % 4294967296 = ((t / d : Nat) : Int):=by
  rw [show (t : Int) / (d : Int) = ((t / d : Nat) : Int) from rfl]
  generalize t / d = z at *
  simp only [IntKind.wrap_u64];omega
 go_wp2_with fail
 go_ret2
 exact ⟨Zha e1 rfl,rfl⟩
theorem Za3 {l : List Nat} {k : Nat} (h : k < l.length) : val (l.drop k) = l[k]?.getD 0 + 4294967296 * val (l.drop (k + 1)):=by
 rw [List.drop_eq_getElem_cons h,val,List.getElem?_eq_getElem h];rfl
theorem Zml {U V q R : Nat} (h : R + q * V = U) (hR : R < V) : q = U / V /\ R = U % V:=by
 subst h
 have hV : 0 < V:=by omega
 constructor
 ·rw [Nat.add_mul_div_right _ _ hV,Nat.div_eq_of_lt hR,Nat.zero_add]
 ·rw [Nat.add_mul_mod_self_right,Nat.mod_eq_of_lt hR]
theorem Zl0 {U V q W : Nat} (hV : 0 < V) (h : W + q * V = U) (hq : U / V <= q) : q = U / V /\ W = U % V:=by
 have h1 : q <= U / V:=by rw [Nat.le_div_iff_mul_le hV];omega
 have h2 : q = U / V:=by omega
 refine ⟨h2,?_⟩;have h3:=Nat.div_add_mod U V;rw [<- h2,Nat.mul_comm V q] at h3;omega
theorem Zj3 {U V q W M : Nat} (hV : 0 < V) (h : W + q * V = U + M) (hW : W < M) : U / V < q:=by
 rw [Nat.div_lt_iff_lt_mul hV];omega
theorem Zk7 {out l : List Nat} {k D r q r' : Nat} (ho : k < out.length) (hl : k < l.length) (hI : val (out.drop (k + 1)) * D + r = val (l.drop (k + 1))) (he : q * D + r' = r * 4294967296 + l[k]?.getD 0) :
    val ((out.set k q).drop k) * D + r' = val (l.drop k):=by
 rw [Za3 (l:=out.set k q) (by rw [List.length_set];exact ho),Ziv _ ho,List.drop_set_of_lt (by omega),Za3 hl,Nat.add_mul,<- hI,Nat.mul_add,Nat.mul_assoc];omega
theorem Ztk {r : List Nat} {i s : Nat} (hs : s <= 32) (hi : i < r.length) (hlt : Lt32 r) :
    val (r.drop i) / 2 ^ s = (r[i]?.getD 0 + 4294967296 * r[i + 1]?.getD 0) / 2 ^ s % 4294967296 + 4294967296 * (val (r.drop (i + 1)) / 2 ^ s):=by
 have hp : 0 < 2 ^ s:=Nat.pow_pos (by omega);have e1 : val (r.drop i) = r[i]?.getD 0 + 4294967296 * val (r.drop (i + 1)):=Za3 hi
 obtain ⟨t,e2⟩ : ∃ t,val (r.drop (i + 1)) = r[i + 1]?.getD 0 + 4294967296 * t:=by
  rcases Nat.lt_or_ge (i + 1) r.length with h | h
  ·exact ⟨_,Za3 h⟩
  ·exact ⟨0,by rw [List.drop_of_length_le h,Zbv h];rfl⟩
 have hx:=hlt.get i
 have hq : (4294967296 : Nat) = 2 ^ s * 2 ^ (32 - s):=by rw [<- Nat.pow_add,show s + (32 - s) = 32 by omega]
 have hb : 4294967296 * (val (r.drop (i + 1)) / 2 ^ s) = 4294967296 * (val (r.drop i) / 2 ^ s / 4294967296):=by
  congr 1
  rw [Nat.div_div_eq_div_mul,Nat.mul_comm (2 ^ s),<- Nat.div_div_eq_div_mul,e1]
  congr 1
  omega
 have ha : (r[i]?.getD 0 + 4294967296 * r[i + 1]?.getD 0) / 2 ^ s % 4294967296 = val (r.drop i) / 2 ^ s % 4294967296:=by
  rw [e1,e2]
  have : r[i]?.getD 0 + 4294967296 * (r[i + 1]?.getD 0 + 4294967296 * t) = (r[i]?.getD 0 + 4294967296 * r[i + 1]?.getD 0) + 2 ^ s * (2 ^ (32 - s) * t * 4294967296):=by
   have : 2 ^ s * (2 ^ (32 - s) * t * 4294967296) = (2 ^ s * 2 ^ (32 - s)) * t * 4294967296:=by grind
   rw [this,<- hq];omega
  rw [this,Nat.add_mul_div_left _ _ hp,Nat.add_mul_mod_self_right]
 rw [ha,hb];omega
def splice (u : List Nat) (k : Nat) (l : List Nat) : List Nat:=u.take k ++ l ++ u.drop (k + l.length)
theorem Zdi {u l : List Nat} {k : Nat} (h : k + l.length <= u.length) : (splice u k l).length = u.length:=by
 unfold splice;simp;omega
theorem Zrp {u l : List Nat} {k : Nat} (hu : Lt32 u) (hl : Lt32 l) : Lt32 (splice u k l):=((hu.take _).append hl).append (hu.drop _)
theorem Zk4 {u l : List Nat} {k i : Nat} (h : k + l.length <= u.length) (hi : i < l.length) : (splice u k l)[k + i]?.getD 0 = l[i]?.getD 0:=by
 unfold splice;rw [List.getElem?_append_left (by simp;omega),List.getElem?_append_right (by simp;omega),List.length_take,Nat.min_eq_left (by omega),show k + i - k = i by omega]
theorem Zjy {u l : List Nat} {k j : Nat} (h : k + l.length <= u.length) (hj : j < k \/ k + l.length <= j) : (splice u k l)[j]?.getD 0 = u[j]?.getD 0:=by
 unfold splice
 rcases hj with hj | hj
 ·rw [List.append_assoc,List.getElem?_append_left (by simp;omega),List.getElem?_take,if_pos hj]
 ·rw [List.getElem?_append_right (by simp;omega),List.getElem?_drop]
  congr 2
  simp;omega
def DivI (A V n : Nat) (u q : List Nat) (j : Nat) : Prop:=
 Lt32 u /\ Lt32 q /\ u.length = q.length + n /\ j <= q.length /\ val u + V * val q = A /\ val (u.drop j) < V /\ ∀ i,i < j -> q[i]?.getD 0 = 0
theorem DivI.win {A V n : Nat} {u q : List Nat} {k : Nat} (h : DivI A V n u q (k + 1)) (hV : V <= pw n) : val ((u.drop k).take (n + 1)) = val (u.drop k) /\ val (u.drop k) < 4294967296 * V:=by
 obtain ⟨h1,h2,h3,h4,h5,h6,h7⟩:=h;have e:=Za3 (l:=u) (k:=k) (by omega);have hx:=h1.get k
 have hlt : val (u.drop k) < 4294967296 * V:=by omega
 refine ⟨?_,hlt⟩;have e2:=Z4 (u.drop k) (n + 1) (by simp;omega)
 rcases Nat.eq_zero_or_pos (val ((u.drop k).drop (n + 1))) with h0 | h0
 ·rw [h0] at e2;omega
 ·have:=Nat.mul_le_mul_left (pw (n + 1)) h0
  rw [Zal] at this e2;have:=Nat.mul_le_mul_left 4294967296 hV;omega
theorem DivI.step {A V n : Nat} {u q l : List Nat} {k Q : Nat} (h : DivI A V n u q (k + 1)) (hV : V <= pw n) (hll : l.length = n + 1) (hl : Lt32 l) (hQ : Q < 4294967296)
    (hq : Q = val ((u.drop k).take (n + 1)) / V) (hr : val l = val ((u.drop k).take (n + 1)) % V) : DivI A V n (splice u k l) (q.set k Q) k:=by
 obtain ⟨hw,hlt⟩:=h.win hV;obtain ⟨h1,h2,h3,h4,h5,h6,h7⟩:=h
 have hV0 : 0 < V:=by omega
 have hk : k + l.length <= u.length:=by omega
 have ed : (splice u k l).drop k = l ++ u.drop (k + l.length):=by
  unfold splice;rw [List.append_assoc,List.drop_append_of_le_length (by simp;omega),List.drop_of_length_le (by simp;omega),List.nil_append]
 have e0 : val (u.drop (k + l.length)) = 0:=by
  have e2:=Z4 (u.drop k) (n + 1) (by simp;omega);rw [hw,List.drop_drop,<- hll] at e2
  rcases Nat.eq_zero_or_pos (val (u.drop (k + l.length))) with h0 | h0
  ·exact h0
  ·have:=Nat.mul_le_mul_left (pw l.length) h0
   have:=Za7 l.length;omega
 have hvd : val ((splice u k l).drop k) = val l:=by rw [ed,Zg5,e0];omega
 refine ⟨Zrp h1 hl,h2.set k hQ,by rw [Zdi hk,List.length_set];exact h3,by rw [List.length_set];omega,?_,by rw [hvd,hr];exact Nat.mod_lt _ hV0,fun i hi=>by rw [getD_set_ne _ (by omega)];exact h7 i (by omega)⟩;have e3:=Z4 (splice u k l) k (by rw [Zdi hk];omega);have e4:=Z4 u k (by omega)
 have e5 : (splice u k l).take k = u.take k:=by
  unfold splice;rw [List.append_assoc,List.take_append_of_le_length (by simp;omega),List.take_of_length_le (by simp;omega)]
 have e6:=Zgg (l:=q) (k:=k) (by omega) Q;rw [h7 k (by omega),Nat.mul_zero,Nat.add_zero] at e6;have e7:=Nat.div_add_mod (val ((u.drop k).take (n + 1))) V;rw [<- hq,<- hr,hw] at e7;rw [e3,e5,hvd,e6,Nat.mul_add];rw [e4,<- e7,Nat.mul_add] at h5
 have : V * (pw k * Q) = pw k * (V * Q):=by grind
 omega
theorem DivI.start {a b : List Nat} {u : List Nat} {s n : Nat} (hu : val u = 2 ^ s * val a) (hul : u.length = a.length + 1) (hult : Lt32 u) (hn : n <= a.length) (halt : Lt32 a) (hb : pw (n - 1) <= val b) (hn0 : 0 < n) :
    DivI (2 ^ s * val a) (2 ^ s * val b) n u (List.replicate (a.length + 1 - n) 0) (a.length + 1 - n):=by
 refine ⟨hult,Lt32.replicate _,by simp;omega,by simp,by rw [Zdg,hu];simp,?_,fun i _=>Zc4 _ _⟩;have e1:=Z4 u (a.length + 1 - n) (by omega);have e2:=Zen halt
 have e3 : pw a.length = pw (a.length + 1 - n) * pw (n - 1):=by rw [<- Zco];congr 1;omega
 have hp : 0 < 2 ^ s:=Nat.pow_pos (by omega);have e4 : 2 ^ s * val a < 2 ^ s * pw a.length:=Nat.mul_lt_mul_of_pos_left e2 hp;have e5 : 2 ^ s * pw (n - 1) <= 2 ^ s * val b:=Nat.mul_le_mul_left _ hb
 have e6 : pw (a.length + 1 - n) * val (u.drop (a.length + 1 - n)) < pw (a.length + 1 - n) * (2 ^ s * pw (n - 1)):=by
  have : pw (a.length + 1 - n) * (2 ^ s * pw (n - 1)) = 2 ^ s * pw a.length:=by rw [e3];grind
  omega
 have:=Nat.lt_of_mul_lt_mul_left e6;omega
theorem DivI.stop {a b : Nat} {u q : List Nat} {s n : Nat} (h : DivI (2 ^ s * a) (2 ^ s * b) n u q 0) : val q = a / b /\ val u = 2 ^ s * (a % b):=by
 obtain ⟨h1,h2,h3,h4,h5,h6,h7⟩:=h;rw [List.drop_zero] at h6;have hp : 0 < 2 ^ s:=Nat.pow_pos (by omega);obtain ⟨e1,e2⟩:=Zml (U:=2 ^ s * a) (V:=2 ^ s * b) (q:=val q) (R:=val u) (by rw [Nat.mul_comm (val q)];exact h5) h6;rw [Nat.mul_div_mul_left _ _ hp] at e1;rw [Nat.mul_mod_mul_left] at e2;exact ⟨e1,e2⟩
theorem Zep {v : Nat} (h : 0 < (digits v).length) : (digits v)[(digits v).length - 1]?.getD 0 ≠ 0:=by
 intro h0;have h1:=Zfx v;rw [List.getLast?_eq_getElem?] at h1;rw [List.getElem?_eq_getElem (by omega)] at h1 h0
 simp at h0
 rw [h0] at h1;exact h1 rfl
theorem Zm2 {v : List Nat} {n : Nat} (hn : v.length = n) (h0 : 0 < n) : v[n - 1]?.getD 0 * pw (n - 1) <= val v:=by
 have e:=Z4 v (n - 1) (by omega);rw [Za3 (by omega)] at e;rw [Nat.mul_add] at e;rw [Nat.mul_comm];omega
theorem Zpy {u : List Nat} {n : Nat} (hn : u.length = n + 1) (h0 : 0 < n) (hlt : Lt32 u) : val u < (u[n]?.getD 0 * 4294967296 + u[n - 1]?.getD 0 + 1) * pw (n - 1):=by
 have e:=Z4 u (n - 1) (by omega);rw [Za3 (by omega),show n - 1 + 1 = n by omega,Za3 (by omega),List.drop_of_length_le (by omega)] at e;have h1:=Zen (hlt.take (n - 1));rw [List.length_take,Nat.min_eq_left (by omega)] at h1;rw [e];simp only [val]
 have : (u[n]?.getD 0 * 4294967296 + u[n - 1]?.getD 0 + 1) * pw (n - 1) = pw (n - 1) * (u[n - 1]?.getD 0 + 4294967296 * (u[n]?.getD 0 + 4294967296 * 0)) + pw (n - 1):=by grind
 omega
theorem top2_le {v : List Nat} {n : Nat} (hn : v.length = n) (h0 : 1 < n) : (v[n - 1]?.getD 0 * 4294967296 + v[n - 2]?.getD 0) * pw (n - 2) <= val v:=by
 have e:=Z4 v (n - 2) (by omega);rw [Za3 (by omega),show n - 2 + 1 = n - 1 by omega,Za3 (by omega)] at e
 have : (v[n - 1]?.getD 0 * 4294967296 + v[n - 2]?.getD 0) * pw (n - 2) <= pw (n - 2) * (v[n - 2]?.getD 0 + 4294967296 * (v[n - 1]?.getD 0 + 4294967296 * val (v.drop (n - 1 + 1)))):=by
  rw [Nat.mul_comm];exact Nat.mul_le_mul_left _ (by omega)
 omega
theorem top3_lt {u : List Nat} {n : Nat} (hn : u.length = n + 1) (h0 : 1 < n) (hlt : Lt32 u) : val u < ((u[n]?.getD 0 * 4294967296 + u[n - 1]?.getD 0) * 4294967296 + u[n - 2]?.getD 0 + 1) * pw (n - 2):=by
 have e:=Z4 u (n - 2) (by omega);rw [Za3 (by omega),show n - 2 + 1 = n - 1 by omega,Za3 (by omega),show n - 1 + 1 = n by omega,Za3 (by omega),List.drop_of_length_le (by omega)] at e;have h1:=Zen (hlt.take (n - 2));rw [List.length_take,Nat.min_eq_left (by omega)] at h1;rw [e];simp only [val]
 have : ((u[n]?.getD 0 * 4294967296 + u[n - 1]?.getD 0) * 4294967296 + u[n - 2]?.getD 0 + 1) * pw (n - 2) = pw (n - 2) * (u[n - 2]?.getD 0 + 4294967296 * (u[n - 1]?.getD 0 + 4294967296 * (u[n]?.getD 0 + 4294967296 * 0))) + pw (n - 2):=by grind
 omega
theorem MutL.reads {w : World} {g off : Nat} {l : List Nat} (h : MutL w g off l) : Reads w w.heap.size 1 (some ⟨g,off,none⟩) l.length (l.map limb):=
 ⟨by simp,fun hn=>⟨_,rfl,by have:=Zn (h 0 hn).1;exact this,fun j u hu=>by
  rw [Zj]
  have hj : j < l.length:=by
   rcases Nat.lt_or_ge j l.length with h' | h'
   ·exact h'
   ·rw [List.getElem?_eq_none (by simpa using h')] at hu;cases hu
  rw [(h j hj).1];rw [List.getElem?_map,List.getElem?_eq_getElem hj] at hu;rw [List.getElem?_eq_getElem hj]
  simpa using hu⟩⟩
theorem MutL.below {w w' : World} {g off : Nat} {l : List Nat} (h : MutL w g off l) (hb : Below w.heap.size w w') : MutL w' g off l:=fun j hj =>
 ⟨Za hb (h j hj).1,Zi hb (h j hj).1 (h j hj).2⟩
theorem MutL.win {w : World} {g off : Nat} {l : List Nat} (h : MutL w g off l) {k n : Nat} (hk : k + n <= l.length) : MutL w g (off + k) ((l.drop k).take n):=fun j hj=>by
 rw [List.length_take,List.length_drop] at hj;have:=h (k + j) (by omega);rw [List.getElem?_take,if_pos (by omega),List.getElem?_drop,Nat.add_assoc];exact this
theorem MutL.splice {w : World} {g : Nat} {u l : List Nat} {k : Nat} (h : MutL w g 0 u) (hk : k + l.length <= u.length) : MutL (w.setCells g k (l.map limb)) g 0 (splice u k l):=fun j hj=>by
 rw [Zdi hk] at hj;obtain ⟨h1,h2⟩:=h j hj;rw [Nat.zero_add] at h1 h2 ⊢;refine ⟨?_,by rw [World.frozen?_setCells];exact h2⟩
 by_cases hin : k <= j /\ j < k + l.length
 ·obtain ⟨i,rfl⟩ : ∃ i,j = k + i:=⟨j - k,by omega⟩
  rw [Zk4 hk (by omega)]
  have:=World.cell?_setCells_in g (l.map limb) k w (fun i hi=>by
   rw [List.length_map] at hi;have:=(h (k + i) (by omega)).1;rw [Nat.zero_add] at this
   rw [this];rfl) i (by rw [List.length_map];omega)
  rw [this]
  simp [List.getElem?_eq_getElem (show i < l.length by omega)]
 ·rw [Zjy hk (by omega),World.cell?_setCells_out g _ k w _ (fun _ _=>by rw [List.length_map];simp only [];omega)]
  exact h1
theorem Zrj {P : Program} {f : FuncId} {args : Array Value} {w : World} {a n : Nat} {v : Value}
    (h : Calls P f args (w.drewN (a + n)) fun e w'=>e = .returned v /\ ∃ m,w' = (w.drewN (a + n)).drewN m) :
    Calls P f args (w.drewN (a + n)) fun e w''=>e = .returned v /\ ∃ m,w'' = w.drewN (a + m):=
 h.mono fun _ _ ⟨he,m,hm⟩=>⟨he,n + m,by rw [hm,World.drewN_drewN,Nat.add_assoc]⟩
theorem div32_q (x y d : Nat) (w : World) (hx : x < d) (hy : y < 4294967296) (hd : d < 4294967296) :
    Calls Try.prog 89 #[limb x,limb y,limb d] w fun e w'=>e = .returned (.tuple #[limb ((x * 4294967296 + y) / d),limb ((x * 4294967296 + y) % d)]) /\ ∃ m,w' = w.drewN m:=
 (Zlq x y d w hx hy hd).mono fun _ _ ⟨he,hm⟩=>⟨he,1,hm⟩
def StepP (w : World) (g off : Nat) (u v : List Nat) (e : Ending) (w' : World) : Prop:=
 ∃ l w1,e = .returned (limb (val u / val v)) /\ l.length = u.length /\ Lt32 l /\ val l = val u % val v /\ Below w.heap.size w w1 /\ w' = w1.setCells g off (l.map limb)
theorem Zta (g off n c d : Nat) (B : Option Addr) (u v : List Nat) (w : World) (hu : MutL w g off u) (hul : u.length = n + 1) (hut : Lt32 u) (hnc : n + 1 <= c) (hcm : c <= maxLen) (hn9 : n <= 1000000) (hn0 : 0 < n)
    (hv : Lim w B n d v) (hlt : val u < 4294967296 * val v) (htop : v[n - 1]?.getD 0 ≠ 0) :
    Calls Try.prog 76 #[.slice (some ⟨g,off,none⟩) (n + 1) c,.slice B n d] w (StepP w g off u v):=by
 unfold maxLen at hcm;have hnd:=hv.2.1;have hdm:=hv.2.2.1;unfold maxLen at hdm;have hvl:=hv.len;obtain ⟨bv,ov,rfl,hcv⟩:=hv.at_ (k:=n - 1) (by omega)
 have hV : 0 < val v:=by
  rcases Nat.eq_zero_or_pos (val v) with h0 | h0
  ·rw [h0] at hlt;omega
  ·exact h0
 obtain ⟨q,hq⟩ : ∃ q,val u / val v = q:=⟨_,rfl⟩
 have hqlt : q < 4294967296:=by rw [<- hq,Nat.div_lt_iff_lt_mul hV];exact hlt
 have hun:=hut.get n;have hun1:=hut.get (n - 1);have hvn:=hv.lt.get (n - 1);have hcu:=hu n (by omega);have hcu1:=hu (n - 1) (by omega)
 have hguess : u[n]?.getD 0 < v[n - 1]?.getD 0 -> q <= (u[n]?.getD 0 * 4294967296 + u[n - 1]?.getD 0) / v[n - 1]?.getD 0:=fun _=>by
  rw [<- hq];exact Zlg (by omega) (Zm2 hvl hn0) (Zpy hul hn0 hut)
 have hglt : u[n]?.getD 0 < v[n - 1]?.getD 0 -> (u[n]?.getD 0 * 4294967296 + u[n - 1]?.getD 0) / v[n - 1]?.getD 0 < 4294967296:=fun h=>by
  rw [Nat.div_lt_iff_lt_mul (by omega)];have:=Nat.mul_le_mul_left 4294967296 (show u[n]?.getD 0 + 1 <= v[n - 1]?.getD 0 by omega);omega
 have HQ:=Zb hq;have hfull:=Zb hul;have hvl':=Zb hvl;clear hq hul hvl;have hfz:=hcu.1;have hfz1:=hcu1.1;obtain ⟨x,hx⟩ : ∃ x,u[n]?.getD 0 = x:=⟨_,rfl⟩;obtain ⟨y,hy⟩ : ∃ y,u[n - 1]?.getD 0 = y:=⟨_,rfl⟩;obtain ⟨z,hz⟩ : ∃ z,v[n - 1]?.getD 0 = z:=⟨_,rfl⟩;rw [hx] at hun hfz;rw [hy] at hun1 hfz1;rw [hz] at hvn hcv htop;rw [hx,hy,hz] at hguess hglt;clear hx hy hz hcu hcu1
 by_cases hc : x < z
 all_goals
  first
  | (have hc' : decide (x < z) = true:=by simpa using hc)
  | (have hc' : decide (x < z) = false:=by simpa using hc)
  go_enter Try.func76,Try.ntmps76;go_wp2_with fail
  go_quiet (fail)
  go_wp2_with fail
  first
  | (go_quiet ((go_at_call 89;exact Zrj (div32_q _ _ _ _ hc hun1 hvn))))
  | skip
  go_wp2_with fail
  go_loopw [6] (fun gv wr=>∃ gs : Nat,gv = limb gs /\ q <= gs /\ gs < 4294967296 /\ Below w.heap.size w wr) (fun gv _=>(intOf gv).toNat)
  case atStart=>first | exact ⟨_,rfl,hguess hc,hglt hc,Zr (Zr (Below.refl _ _) _) _⟩ | exact ⟨4294967295,rfl,by omega,by omega,Zr (Below.refl _ _) _⟩
  case round =>
   obtain ⟨gs,rfl,hg1,hg2,hB⟩:=hrel;clear hguess hglt hfz hfz1;have huM:=hu.below hB;have hvL:=hv.below hB;have hbv : bv < wr.heap.size:=Nat.lt_of_lt_of_le (Zn hcv) hB.size;have hgw : g < wr.heap.size:=Nat.lt_of_lt_of_le (Zn (hu 0 (by rw [hfull.out];omega)).1) hB.size
   have hrd : Reads wr wr.heap.size 1 (some ⟨g,off,none⟩) (n + 1) (u.map limb):=by have:=huM.reads;rw [hfull.out] at this;exact this
   go_wp2_with fail;refine (Zlj ⟨g,off,none⟩ (n + 1) c u _ hrd hfull.out hut (by omega) hnc (by unfold maxLen;omega)).mono ?_;rintro e w1 ⟨v1,rfl,hown,hb1⟩;obtain ⟨g1,cap1,hv1,hg1',hg1s,hl1,hc1,hM1⟩:=hown.mut (by rw [hfull.out];omega);rw [hfull.out] at hv1 hl1;subst hv1;go_wp2_with fail;refine (Zmf g1 0 n cap1 d gs (some ⟨bv,ov,none⟩) u v _ hM1 hfull.out hut hl1 hc1 (by omega) (hvL.below hb1) (fun b o e=>by injection e with e;injection e with e1 e2;omega) hg2).mono ?_;rintro e w2 ⟨b,l,hb01,rfl,hM2,hll,hlt2,hI,hgr⟩;have hB2 : Below w.heap.size w w2:=(hB.trans (hb1.mono hB.size)).grown hgr (by have:=hb1.size;have:=hB.size;omega) (fun j hj=>by injection hj with hj;have:=hB.size;omega)
   rcases Nat.eq_zero_or_pos b with rfl | hb0
   ·obtain ⟨hit1,hit2⟩:=Zl0 (U:=val u) (q:=gs) (W:=val l) hV (by rw [Nat.mul_zero] at hI;exact hI) (by rw [HQ.out];exact hg1)
    have hcopy : ∀ ty,(Builtin.copy_ #[24,24] ty #[.slice (some ⟨g,off,none⟩) (n + 1) c,.slice (some ⟨g1,0,none⟩) (n + 1) cap1]).run Try.prog w2 = .ok (goInt ((n + 1 : Nat) : Int)) (w2.setCells g off (l.map limb)):=fun ty=>by
     obtain ⟨i0,hi,hz0,hz1,hz2⟩:=info_parts Zcl
     have h:=run_copy_cells (P:=Try.prog) w2 24 24 ty 71 g off (n + 1) c ⟨g1,0,none⟩ (n + 1) cap1 (l.map limb) Try.underlying24 (by rw [hi];simp [hz1]) (by rw [List.length_map,hll];exact (Nat.min_self _).symm)
      (fun j x hx=>by
       have hj : j < l.length:=by
        rcases Nat.lt_or_ge j l.length with h' | h'
        ·exact h'
        ·rw [List.getElem?_eq_none (by simpa using h')] at hx;cases hx
       rw [Zj,(hM2 j hj).1];rw [List.getElem?_map,List.getElem?_eq_getElem hj] at hx;rw [List.getElem?_eq_getElem hj]
       simpa using hx)
      (fun j hj=>by
       rw [List.length_map,hll] at hj;have h3:=(huM j (by rw [hfull.out];exact hj)).1;have h4:=Za hb1 h3
       rw [(World.cell?_of_block (a:=⟨g,off + j,none⟩) (hgr.block g (by have:=hb1.size;omega) (fun e=>by injection e with e;omega))),h4];rfl)
      (fun j hj=>by
       rw [List.length_map,hll] at hj;have h3:=huM j (by rw [hfull.out];exact hj);have h4:=Zi hb1 h3.1 h3.2
       rw [(World.frozen?_of_block (a:=⟨g,off + j,none⟩) (hgr.block g (by have:=hb1.size;omega) (fun e=>by injection e with e;omega))),h4])
      (Zcq l)
     rw [List.length_map,hll] at h;exact h
    have hP : StepP w g off u v (.returned (limb gs)) (w2.setCells g off (l.map limb)):=⟨l,w2,by rw [hit1],by rw [hll,hfull.out],hlt2,hit2,hB2,rfl⟩;replace hP:=Zb hP;clear hit1 hit2 hI hll;go_wp2_with fail;go_ret;exact hP.out
   ·obtain rfl : b = 1:=by omega
    have hmiss : q < gs:=by
     have:=Zj3 (q:=gs) (W:=val l) (M:=pw (n + 1)) hV (by rw [Nat.mul_one] at hI;exact hI) (by have:=Zen hlt2;rw [hll] at this;exact this);rw [HQ.out] at this;exact this
    clear hI hll;go_wp2_with fail
    go_roundw
    case rel=>exact ⟨gs - 1,by go_num,by omega,by omega,hB2⟩
    case measure=>simp [intOf];omega
def OnlyNormal (Q : Exit -> Act -> World -> Prop) : Exit -> Act -> World -> Prop
 | .normal,a,w=>Q .normal a w
 | _,_,_=>False
theorem OnlyNormal.no_out {Q : Exit -> Act -> World -> Prop} (h : LetsOut (OnlyNormal Q)) : False:=by
 obtain ⟨a,w,h⟩:=h;exact h
theorem OnlyNormal.normal {Q : Exit -> Act -> World -> Prop} {a : Act} {w : World} (h : Q .normal a w) : OnlyNormal Q .normal a w:=h
theorem Za9 {l n : Nat} {P : Program} {ops : Array Oper} {Q : Exit -> Act -> World -> Prop} (hnd : ∀ (i : Nat) (o : Oper),ops[i]? = some o -> ∀ c,o.op ≠ .defer c) :
    ∀ (is : List Nat) (a : Act) (w : World),wpOps P ops (OnlyNormal Q) is a w -> wpOpsIn (Fence.wide.inRound l) n P ops Q is a w
 | [],_,_,h=>h
 | i :: rest,a,w,h=>by
  simp only [wpOps] at h;simp only [wpOpsIn]
  cases ho : ops[i]? with
  | none=>simp only [ho] at h ⊢;exact Za9 hnd rest a w h
  | some o =>
   simp only [ho] at h ⊢
   by_cases hw : Region.wanted o (yielded ops a.tmps) = true
   ·simp only [hw,if_true] at h ⊢
    rcases h with h | ⟨_,h⟩
    ·refine ⟨fun _ _=>trivial,?_⟩
     rw [Oper.semAt_eq _ _ _ (hnd i o ho)];unfold Oper.wp at h
     generalize (execOp a.eval o).run P w = r at *
     cases r with
     | ok x w' =>
      cases x with
      | value v=>exact Za9 hnd rest _ _ h
      | skip=>exact Za9 hnd rest _ _ h
      | defer d=>exact Za9 hnd rest _ _ h
      | enter f args =>
       refine ⟨(fun h=>by cases h),CallsIn.inRound l (callsIn_wide.2 (Calls.mono h fun e w'' he=>?_))⟩
       cases e with
       | returned v=>exact Za9 hnd rest _ _ he
       | panicked c=>exact (he : False).elim
       | outgrown=>exact (OnlyNormal.no_out he).elim
      | row row args =>
       refine ⟨(fun h=>by cases h),fun c cs _=>?_⟩;obtain ⟨v,w'',hR,hs⟩:=h c cs;exact ⟨v,w'',Za9 hnd rest _ _ hR,stepsIn_wide.2 hs⟩
      | _=>exact (h : False).elim
     | halt x w'=>cases x <;> exact (h : False).elim
    ·exact (OnlyNormal.no_out h).elim
   ·simp only [hw,if_false,Bool.false_eq_true] at h ⊢
    exact ⟨fun _ _=>trivial,Za9 hnd rest _ _ h⟩
def Zhy (ops : Array Oper) : Bool:=ops.all fun o=>match o.op with | .defer _=>false | _=>true
theorem Zkw {ops : Array Oper} (h : Zhy ops = true) : ∀ (i : Nat) (o : Oper),ops[i]? = some o -> ∀ c,o.op ≠ .defer c:=by
 intro i o ho c hc;unfold Zhy at h;rw [Array.all_eq_true] at h;obtain ⟨hi,rfl⟩:=Array.getElem?_eq_some_iff.1 ho;have:=h i hi;rw [hc] at this
 cases this
def Zc1 (L : List Nat) (listed : Array Bool) : Bool:=L.all fun k=>!(listed.getD k true)
def Zag (P : Program) (md : Region.Mode) (ops : Array Oper) (Q : Exit -> Act -> World -> Prop) (L : List Nat) (S : World -> Prop) : Nat -> Array Bool -> Act -> World -> Prop
 | 0,listed,a,w=>Region.ready md ops listed = [] /\ Q .normal a w
 | fuel + 1,listed,a,w =>
  (Region.ready md ops listed = [] -> Q .normal a w) /\
  ∀ i ∈ Region.ready md ops listed,wpOp P ops Q i (fun a' w'=>(Zc1 L (listed.setIfInBounds i true) = true -> S w') /\ Zag P md ops Q L S fuel (listed.setIfInBounds i true) a' w') a w
section
variable {P : Program} {ops : Array Oper} {Q : Exit -> Act -> World -> Prop} {md : Region.Mode} {L : List Nat} {S : World -> Prop}
theorem Zg4 : ∀ (fuel : Nat) (listed : Array Bool) (a : Act) (w : World),Zag P md ops Q L S fuel listed a w -> wpAny P md ops Q fuel listed a w
 | 0,_,_,_,h=>h
 | fuel + 1,_,_,_,h=>⟨h.1,fun i hi=>wpOp_mono (fun a' w' h'=>Zg4 fuel _ a' w' h'.2) (h.2 i hi)⟩
theorem Zcf {listed : Array Bool} {j : Nat} (hj : j ∉ L) : Zc1 L (listed.setIfInBounds j true) = Zc1 L listed:=by
 unfold Zc1;rw [Bool.eq_iff_iff,List.all_eq_true,List.all_eq_true]
 have : ∀ k ∈ L,(listed.setIfInBounds j true).getD k true = listed.getD k true:=fun k hk=>Go.getD_set_ne true (fun e=>hj (e ▸ hk))
 constructor
 ·intro h k hk;rw [<- this k hk];exact h k hk
 ·intro h k hk;rw [this k hk];exact h k hk
def Zio (md : Region.Mode) (ops : Array Oper) (L : List Nat) (i : Nat) : Bool:=L.all fun k=>k != i && (match ops[k]? with | some o=>o.after.any fun e=>Region.binds md e && e.on == i | none=>false)
theorem Zm1 {i : Nat} {oi : Oper} {v : Value} (hi : ops[i]? = some oi) (hsel : ∀ (j : Nat) (o : Oper) cs b,ops[j]? = some o -> o.op ≠ .select cs b)
    (hQ : ∀ c a w,Q (.panic c) (a.put oi.dst v) w -> Q (.panic c) a w) (hL : Zio md ops L i = true) :
    ∀ (fuel : Nat) (listed : Array Bool) (a : Act) (w : World),
     (∀ j oj,ops[j]? = some oj -> j ≠ i -> listed.getD j true = false -> (∀ e ∈ oj.after,Region.binds md e = true -> e.on ≠ i) -> oi.apart ops oj = true) ->
     i ∈ Region.ready md ops listed -> YieldsIf P ops S oi v a -> Zc1 L listed = true -> S w ->
     Zag P md ops Q L S fuel (listed.setIfInBounds i true) (a.put oi.dst v) w -> Zag P md ops Q L S (fuel + 1) listed a w:=by
 have hiL : i ∉ L:=fun h=>by
  unfold Zio at hL;rw [List.all_eq_true] at hL;have:=hL i h
  simp at this
 intro fuel
 induction fuel with
 | zero =>
  intro listed a w _ hr hy hn hS H;refine ⟨fun h=>(by rw [h] at hr;cases hr),fun j hj=>?_⟩
  by_cases hji : j = i
  ·subst hji;exact hy.wpOp hi hS ⟨fun _=>hS,H⟩
  ·have:=ready_mono hj hji
   rw [H.1] at this
   cases this
 | succ fuel ih =>
  intro listed a w hfree hr hy hn hS H;refine ⟨fun h=>(by rw [h] at hr;cases hr),fun j hj=>?_⟩
  by_cases hji : j = i
  ·subst hji;exact hy.wpOp hi hS ⟨fun _=>hS,H⟩
  ·have h1:=H.2 j (ready_mono hj hji)
   obtain ⟨hjun,oj,hoj,hall⟩:=mem_ready.1 hj
   have hnot : ∀ e ∈ oj.after,Region.binds md e = true -> e.on ≠ i:=fun e he hb heq=>by
    have h1:=hall e he hb;have h0:=(mem_ready.1 hr).1;rw [heq] at h1
    rcases Nat.lt_or_ge i listed.size with h' | h'
    ·simp [h'] at h0 h1;rw [h0] at h1;cases h1
    ·simp [Array.getElem?_eq_none h'] at h1
   have hjL : j ∉ L:=fun hjL=>by
    unfold Zio at hL;rw [List.all_eq_true] at hL;have h2:=hL j hjL;rw [hoj] at h2;simp only [Bool.and_eq_true,Array.any_eq_true'] at h2;obtain ⟨_,e,he,h3,h4⟩:=h2;exact hnot e he h3 (by simpa using h4)
   have h2:=wpOp_putIf hoj (hfree j oj hoj hji hjun hnot) (fun cs b=>hsel i oi cs b hi) (fun cs b=>hsel j oj cs b hoj) hQ hy h1
   have hfree' : ∀ k ok,ops[k]? = some ok -> k ≠ i -> (listed.setIfInBounds j true).getD k true = false ->
       (∀ e ∈ ok.after,Region.binds md e = true -> e.on ≠ i) -> oi.apart ops ok = true:=fun k ok hk hki hun hno=>by
    refine hfree k ok hk hki ?_ hno
    by_cases hjk : j = k
    ·subst hjk;exact hjun
    ·rw [Go.getD_set_ne true hjk] at hun;exact hun
   have hn2 : Zc1 L (listed.setIfInBounds j true) = true:=by rw [Zcf hjL];exact hn
   refine wpOp_mono (fun a' w' h3=>⟨fun _=>h3.2.1 (by rw [Zcf hjL,Zcf hiL];exact hn),ih (listed.setIfInBounds j true) a' w' hfree' (ready_mono hr (Ne.symm hji)) h3.1 hn2 (h3.2.1 (by rw [Zcf hjL,Zcf hiL];exact hn)) ?_⟩) h2;rw [Array.setIfInBounds_comm _ _ hji];exact h3.2.2
theorem Zc {i : Nat} {oi : Oper} {v : Value} {fuel : Nat} {listed : Array Bool} {a : Act} {w : World} (hi : ops[i]? = some oi)
    (hs : Region.noSelect ops = true) (hf : Region.free md ops listed i = true) (hr : (Region.ready md ops listed).contains i = true) (hL : Zio md ops L i = true) (hn : Zc1 L listed = true)
    (hy : YieldsIf P ops S oi v a) (hS : S w)
    (h : Zag P md ops (OnlyNormal Q) L S fuel (listed.setIfInBounds i true) (a.put oi.dst v) w) : Zag P md ops (OnlyNormal Q) L S (fuel + 1) listed a w:=
 Zm1 hi (Region.noSelect_spec hs) (fun _ _ _ h=>(h : False).elim) hL fuel listed a w (Region.free_spec hi hf) (by simpa using hr) hy hn hS h
theorem Zp {i : Nat} {o : Oper} {fuel : Nat} {listed : Array Bool} {a : Act} {w : World} (ho : ops[i]? = some o) (hr : Region.ready md ops listed = [i])
    (h : ∀ K' : Act -> World -> Prop,Shut (∀ a w,(Zc1 L (listed.setIfInBounds i true) = true -> S w) -> Zag P md ops Q L S fuel (listed.setIfInBounds i true) a w -> K' a w) -> if Region.wanted o (yielded ops a.tmps) = true then Oper.wp P o a w K' Q else K' (a.put o.dst undef) w) :
    Zag P md ops Q L S (fuel + 1) listed a w:=
 ⟨(fun h0=>by rw [h0] at hr;cases hr),fun j hj=>by
  rw [hr,List.mem_singleton] at hj;subst hj
  exact wpOp_step ho (fun K' hK=>h K' (fun a w hS hW=>hK a w ⟨hS,hW⟩))⟩
theorem Zbn {i : Nat} {o : Oper} {fuel : Nat} {listed : Array Bool} {a : Act} {w : World} (ho : ops[i]? = some o) (hr : Region.ready md ops listed = [i]) (hn : Zc1 L (listed.setIfInBounds i true) = false)
    (h : ∀ K' : Act -> World -> Prop,Shut (∀ a w,Zag P md ops Q L S fuel (listed.setIfInBounds i true) a w -> K' a w) -> if Region.wanted o (yielded ops a.tmps) = true then Oper.wp P o a w K' Q else K' (a.put o.dst undef) w) :
    Zag P md ops Q L S (fuel + 1) listed a w:=
 Zp ho hr fun K hK=>h K fun a w hW=>hK a w (fun h=>by rw [hn] at h;cases h) hW
theorem Zw {listed : Array Bool} {a : Act} {w : World} (hr : Region.ready md ops listed = []) (h : Q .normal a w) : ∀ fuel,Zag P md ops Q L S fuel listed a w
 | 0=>⟨hr,h⟩
 | _ + 1=>⟨fun _=>h,by rw [hr];simp⟩
end
theorem Zcs {l n : Nat} {P : Program} {id : Nat} {ops : Array Oper} {Q : Exit -> Act -> World -> Prop} {a : Act} {w : World} (L : List Nat) (S : World -> Prop) (hm : P.follows .mixedOrders = true) (hnd : Zhy ops = true)
    (hS : S w.drew) (h : S w.drew -> Zag P .any ops (OnlyNormal Q) L S ops.size (Array.replicate ops.size false) a w.drew) : (Code.region id ops true).wpIn (Fence.wide.inRound l) n P Q a w:=
 wpIn_region_draw fun t=>Za9 (Zkw hnd) _ _ _ (by
  simp only [Region.schedule,hm,Bool.true_or,if_true]
  exact wpAny_sound ops.size t _ a _ (Zg4 _ _ _ _ (h hS)))
section
variable {P : Program} {ops : Array Oper} {Q : Exit -> Act -> World -> Prop} {md : Region.Mode} {L : List Nat} {S : World -> Prop} {R : Act -> Prop}
end
theorem putL_a {α : Type} (l : List α) (i : Nat) (a : α) : l.toArray.setIfInBounds i a = (l.set i a).toArray:=List.setIfInBounds_toArray l i a
theorem putG_a {α : Type} (l : List α) (i : Nat) (h : i < l.toArray.size) : l.toArray[i] = l[i]'(by simpa using h):=by simp
theorem putG_z {α : Type} (a : α) (l : List α) (h : 0 < (a :: l).length) : (a :: l)[0]'h = a:=rfl
theorem putG_s {α : Type} (a : α) (l : List α) (i : Nat) (h : i + 1 < (a :: l).length) : (a :: l)[i + 1]'h = l[i]'(by simpa using h):=rfl
theorem putL_z {α : Type} (a b : α) (l : List α) : (a :: l).set 0 b = b :: l:=rfl
theorem putL_s {α : Type} (a b : α) (l : List α) (n : Nat) : (a :: l).set (n + 1) b = a :: l.set n b:=rfl
def Zmx (md : Region.Mode) (ops : Array Oper) (L : List Nat) : List Nat -> Array Bool -> Bool
 | [],_=>true
 | i :: is,l=>Region.free md ops l i && (Region.ready md ops l).contains i && Zio md ops L i && Zc1 L l && Zmx md ops L is (l.setIfInBounds i true)
def Zeo (P : Program) (ops : Array Oper) (S : World -> Prop) : List Nat -> Act -> (Act -> Prop) -> Prop
 | [],a,R=>R a
 | i :: is,a,R=>∃ oi v,ops[i]? = some oi /\ YieldsIf P ops S oi v a /\ Zeo P ops S is (a.put oi.dst v) R
def Zh0 : List Nat -> Array Bool -> Array Bool
 | [],l=>l
 | i :: is,l=>Zh0 is (l.setIfInBounds i true)
section
variable {P : Program} {ops : Array Oper} {Q : Exit -> Act -> World -> Prop} {md : Region.Mode} {L : List Nat} {S : World -> Prop} {R : Act -> Prop}
theorem tk0 {a : Act} (h : R a) : Zeo P ops S [] a R:=h
theorem tk1 {i : Nat} {is : List Nat} {oi : Oper} {v : Value} {a : Act} (ho : ops[i]? = some oi) (hy : YieldsIf P ops S oi v a) (h : Zeo P ops S is (a.put oi.dst v) R) : Zeo P ops S (i :: is) a R:=⟨oi,v,ho,hy,h⟩
theorem tkA {i : Nat} {is : List Nat} {oi : Oper} {v : Value} {a : Act} (h : Zeo P ops S is (a.put oi.dst v) R) (ho : ops[i]? = some oi:=by rfl) (hy : YieldsIf P ops S oi v a:=by refine Or.inl ⟨by kernel_rfl,?_⟩;intro W2 hSw;(try dsimp only at hSw);go_simp;try with_reducible rfl) : Zeo P ops S (i :: is) a R:=⟨oi,v,ho,hy,h⟩
theorem wpAnyL_o (i : Nat) {o : Oper} {fuel : Nat} {listed : Array Bool} {a : Act} {w : World} {Q0 : Exit -> Act -> World -> Prop} (h : ∀ K' : Act -> World -> Prop,Shut (∀ a w,(Zc1 L (listed.setIfInBounds i true) = true -> S w) -> Zag P md ops Q0 L S fuel (listed.setIfInBounds i true) a w -> K' a w) -> if Region.wanted o (yielded ops a.tmps) = true then Oper.wp P o a w K' Q0 else K' (a.put o.dst undef) w) (ho : ops[i]? = some o:=by rfl) (hr : Region.ready md ops listed = [i]:=by kernel_rfl) : Zag P md ops Q0 L S (fuel + 1) listed a w:=Zp ho hr h
theorem wpAnyL_fin {fuel : Nat} {listed : Array Bool} {a : Act} {w : World} (h : Q .normal a w) (hr : Region.ready md ops listed = []:=by kernel_rfl) : Zag P md ops (OnlyNormal Q) L S fuel listed a w:=Zw hr (OnlyNormal.normal h) fuel
theorem Zlr (hs : Region.noSelect ops = true) {w : World} (hS : S w) : ∀ (is : List Nat) (F : Nat) (listed : Array Bool) (a : Act),Zmx md ops L is listed = true -> Zeo P ops S is a (fun a'=>Zag P md ops (OnlyNormal Q) L S F (Zh0 is listed) a' w) -> Zag P md ops (OnlyNormal Q) L S (F + is.length) listed a w
 | [],F,l,a,_,h=>h
 | i :: is,F,l,a,hc,h=>by
  obtain ⟨oi,v,ho,hy,h2⟩:=h;simp only [Zmx,Bool.and_eq_true] at hc;exact Zc ho hs hc.1.1.1.1 hc.1.1.1.2 hc.1.1.2 hc.1.2 hy hS (Zlr hs hS is F _ _ hc.2 h2)
theorem Zt2 {F : Nat} {listed : Array Bool} {a : Act} {w : World} (k : Nat) (is : List Nat) (hk : is.length = k) (hc : (Region.noSelect ops && Zmx md ops L is listed) = true) (hS : S w)
    (h : Zeo P ops S is a (fun a'=>Zag P md ops (OnlyNormal Q) L S F (Zh0 is listed) a' w)) : Zag P md ops (OnlyNormal Q) L S (F + k) listed a w:=by
 rw [Bool.and_eq_true] at hc;subst hk;exact Zlr hc.1 hS is F listed a hc.2 h
end
open Go.RowKit Go.Shelf
attribute [local go_sem] Oper.semAt_some
theorem Zhu {W W' : World} {row : Option Nat} {g : Nat} {t : TypeId} {cs : Array Value} (h : Blk W g t cs) (hg : W.grownBy W' row) (hrow : ∀ r,row = some r -> ∃ o : Obj,W.heap[r]? = some o /\ o.isCells = false) : Blk W' g t cs:=
 (hg.block g h.lt (fun e=>by
  obtain ⟨o,ho,hc⟩:=hrow g e.symm;unfold Blk at h;rw [h] at ho
  cases ho
  cases hc)).trans h
theorem Znx {n : Nat} {pre : List { i : Nat // i < n }} {x : { i : Nat // i < n }} (hl : pre.length < n) (h : pre ++ [x] = Zcg n (pre.length + 1)) : pre = Zcg n pre.length /\ x.1 = n - 1 - pre.length:=by
 rw [Zcy hl] at h;obtain ⟨h1,h2⟩:=List.append_inj' h rfl;refine ⟨h1,?_⟩;have:=congrArg (List.map (fun z : { i : Nat // i < n }=>z.1)) h2
 simpa using this
def DownI (h n D : Nat) (l : List Nat) (rb : Nat -> Value) (t6 t7 : TypeId) (B0 : Value) (tB : TypeId) (pre : List { i : Nat // i < n }) (W : World) : Prop:=
 ∃ (o : List Nat) (r : Nat),Blk W h tB #[B0] /\ Blk W (h + 1) 71 (Zt o) /\ Blk W (h + 1 + 1) t6 #[.slice (some ⟨h + 1,0,none⟩) n n] /\ Blk W (h + 1 + 1 + 1) t7 #[rb r] /\ o.length = n /\ Lt32 o /\ r < D /\
  (pre = Zcg n pre.length -> val (o.drop (n - pre.length)) * D + r = val (l.drop (n - pre.length)))
theorem DownI.own {h n D : Nat} {l : List Nat} {rb : Nat -> Value} {t6 t7 : TypeId} {B0 : Value} {tB : TypeId} {pre : List { i : Nat // i < n }} {W W' : World} {row : Option Nat} (H : DownI h n D l rb t6 t7 B0 tB pre W) (hg : W.grownBy W' row) (hr : ∀ r,row = some r -> ∃ o : Obj,W.heap[r]? = some o /\ o.isCells = false) : DownI h n D l rb t6 t7 B0 tB pre W':=by
 obtain ⟨o,r,h1,h2,h3,h4,h5⟩:=H;exact ⟨o,r,Zhu h1 hg hr,Zhu h2 hg hr,Zhu h3 hg hr,Zhu h4 hg hr,h5⟩
theorem DownI.step {h n D : Nat} {l : List Nat} {rb : Nat -> Value} {t6 t7 : TypeId} {B0 : Value} {tB : TypeId} {pre : List { i : Nat // i < n }} {x : { i : Nat // i < n }} {W' : World} {o : List Nat} {r q r' : Nat}
    (h1 : Blk W' h tB #[B0]) (h2 : Blk W' (h + 1) 71 (Zt (o.set x.1 q))) (h3 : Blk W' (h + 1 + 1) t6 #[.slice (some ⟨h + 1,0,none⟩) n n]) (h4 : Blk W' (h + 1 + 1 + 1) t7 #[rb r']) (h5 : o.length = n) (h6 : Lt32 o) (hq : q < 4294967296) (hr : r' < D)
    (hl : l.length = n) (hp : pre.length < n) (hI : pre = Zcg n pre.length -> val (o.drop (n - pre.length)) * D + r = val (l.drop (n - pre.length))) (he : q * D + r' = r * 4294967296 + l[x.1]?.getD 0) : DownI h n D l rb t6 t7 B0 tB (pre ++ [x]) W':=by
 refine ⟨o.set x.1 q,r',h1,h2,h3,h4,by rw [List.length_set];exact h5,h6.set _ hq,hr,fun e=>?_⟩;rw [List.length_append,List.length_singleton] at e ⊢;obtain ⟨e1,e2⟩:=Znx hp e;have hI:=hI e1;rw [show n - (pre.length + 1) = x.1 by omega];rw [show n - pre.length = x.1 + 1 by omega] at hI;exact Zk7 (by omega) (by omega) hI he
theorem trim_q (A : Option Addr) (n c : Nat) (l : List Nat) (w : World) (h : Lim w A n c l) :
    Calls Try.prog 71 #[.slice A n c] w fun e w'=>e = .returned (.slice A (digits (val l)).length c) /\ ∃ m,w' = w.drewN m:=
 (Zer A n c l w h).mono fun _ _ ⟨he,hw⟩=>⟨he,0,hw.symm⟩
def ShortP (w : World) (a d : Nat) (e : Ending) (w' : World) : Prop:=
 ∃ A n c,e = .returned (.tuple #[.slice A n c,limb (a % d)]) /\ Lim w' A n c (digits (a / d)) /\ Below w.heap.size w w'
theorem Zrd (A : Option Addr) (n c d : Nat) (l : List Nat) (w : World) (hl : Lim w A n c l) (hd0 : 0 < d) (hd : d < 4294967296) (hn9 : n <= 1000000) :
    Calls Try.prog 73 #[.slice A n c,limb d] w (ShortP w (val l) d):=by
 obtain ⟨i0,hi,hz0,hz1,hz2⟩:=info_parts Zcl;have hmk:=Zfj (P:=Try.prog) 24 71 Try.underlying24 hi hz0 hz1 hz2 (n : Int) n rfl (by omega);have hnc:=hl.2.1;have hcm:=hl.2.2.1;unfold maxLen at hcm
 have h9 : 1 <= 9:=by omega
 refine (callsIn_wide (n:=9)).1 ?_;refine callsIn_of_wp_marks Try.func73 rfl trivial ?_ rfl;simp only [Try.ntmps73,List.size_toArray,List.length_cons,List.length_nil,Nat.reduceAdd,Nat.reduceSub,Array.replicate_succ,Array.replicate_zero,List.push_toArray,List.append_toArray,List.nil_append,List.cons_append]
 gi_wp2_with (refine ⟨trivial,?_⟩;gi_at_call 88;refine (callsIn_wide.2 (Zkh _ _ _ _)).mono ?_;rintro e w' ⟨rfl,rfl⟩)
 have bD:=Blk.new w 71 #[limb d];have bO:=Blk.new (w.alloc (.cells #[limb d] 71)) 71 (Zt (List.replicate n 0));have b6:=Blk.new ((w.alloc (.cells #[limb d] 71)).alloc (.cells (Zt (List.replicate n 0)) 71)) 24 #[.slice (some ⟨w.heap.size + 1,0,none⟩) n n];have b7:=Blk.new (((w.alloc (.cells #[limb d] 71)).alloc (.cells (Zt (List.replicate n 0)) 71)).alloc (.cells #[.slice (some ⟨w.heap.size + 1,0,none⟩) n n] 24)) 71 #[limb 0];have bN:=Boxed.new ((((w.alloc (.cells #[limb d] 71)).alloc (.cells (Zt (List.replicate n 0)) 71)).alloc (.cells #[.slice (some ⟨w.heap.size + 1,0,none⟩) n n] 24)).alloc (.cells #[limb 0] 71)) 24 (.slice A n c);simp only [World.size_alloc] at bO b6 b7 bN
 have hB0 : Below w.heap.size w (((((w.alloc (.cells #[limb d] 71)).alloc (.cells (Zt (List.replicate n 0)) 71)).alloc (.cells #[.slice (some ⟨w.heap.size + 1,0,none⟩) n n] 24)).alloc (.cells #[limb 0] 71)).alloc (.cells #[.slice A n c] 24)):=by go_grown
 have h0 : DownI w.heap.size n d l limb 24 71 (limb d) 71 [] (((((w.alloc (.cells #[limb d] 71)).alloc (.cells (Zt (List.replicate n 0)) 71)).alloc (.cells #[.slice (some ⟨w.heap.size + 1,0,none⟩) n n] 24)).alloc (.cells #[limb 0] 71)).alloc (.cells #[.slice A n c] 24)):=
  ⟨List.replicate n 0,0,(((bD.alloc _).alloc _).alloc _).alloc _,((bO.alloc _).alloc _).alloc _,(b6.alloc _).alloc _,b7.alloc _,by simp,Lt32.replicate _,hd0,fun _=>by rw [List.length_nil,Nat.sub_zero,List.drop_of_length_le (by simp),List.drop_of_length_le (by rw [hl.len];exact Nat.le_refl _)];simp [val]⟩
 have hmx : Try.prog.follows .mixedOrders = true:=by kernel_rfl
 refine wpIn_rangeFunc_ownF rfl h9 (gf:=96) (lb:=#[.pointer (some ⟨w.heap.size + 1 + 1 + 1 + 1,0,none⟩)]) rfl trivial (enters_of Try.func96 (by kernel_rfl) rfl)
  (Zhg 8 (by omega) (w.heap.size + 1 + 1 + 1 + 1) n c A l _ bN.cell (hl.below hB0)) KpD.trans (fun W l o o' _ h hc _=>KpD.put W l o o' h hc) (Below.refl _ _) (fun _=>rfl)
  (fun pre W=>DownI w.heap.size n d l limb 24 71 (limb d) 71 pre W /\ Below w.heap.size w W)
  (fun _ _ _=>False)
  (OwnFrom.and (Own.from (fun s X Y row hs hg hr=>hs.own hg hr) _) (ownFrom_below (Nat.le_refl _) (by simp;omega)))
  (fun cc=>Own.from (fun s X Y row hs hg hr=>hs) _)
  ⟨h0,hB0⟩
  (fun x=>{ tmps:=#[.slice A n c,limb d,undef,.pointer (some ⟨w.heap.size,0,none⟩),.slice none 0 0,.int .u32 0,.pointer (some ⟨w.heap.size + 1 + 1,0,none⟩),.pointer (some ⟨w.heap.size + 1 + 1 + 1,0,none⟩),.int .i64 (x.1 : Int),limb (l[x.1]?.getD 0),.slice A n c,
   .int .i64 n,.slice (some ⟨w.heap.size + 1,0,none⟩) n n,.slice A n c,.func (.func 96) #[] #[.pointer (some ⟨w.heap.size + 1 + 1 + 1 + 1,0,none⟩)],.int .i64 (x.1 : Int),limb (l[x.1]?.getD 0),
   undef,undef,undef,undef,undef,undef,undef,undef,undef,undef,undef,undef,undef],defers:=[] }) ?assign ?body ?done ?stop
 case assign =>
  intro l x W K hK;dsimp only [Zgn]
  gi_wp2
  exact hK
 case body =>
  rintro lp pre x W ⟨⟨o,r,k1,k2,k3,k4,k5,k6,k7,k8⟩,hB⟩ hpre;obtain ⟨i,hi'⟩:=x;have k8:=Zb k8;have k5:=Zb k5;have c1:=k1.cell 0;have c3:=k3.cell 0;have c4:=k4.cell 0;have f4:=k4.frozen 0;have c2:=k2.cell i;rw [Zab o i (by rw [k5.out];exact hi')] at c2;have f2:=k2.frozen i
  simp at c1 c3 c4
  have hx:=hl.lt.get i
  gi_wp2
  refine Zcs [11] (fun W'=>W'.cell? ⟨w.heap.size,0,none⟩ = some (limb d) /\ W'.cell? ⟨w.heap.size + 1 + 1,0,none⟩ = some (.slice (some ⟨w.heap.size + 1,0,none⟩) n n) /\ W'.cell? ⟨w.heap.size + 1 + 1 + 1,0,none⟩ = some (limb r)) hmx (by kernel_rfl) ⟨c1,c3,c4⟩ (fun _=>?_);refine Zt2 5 [0,1,2,3,4] rfl (by kernel_rfl) ⟨c1,c3,c4⟩ ?_
  iterate 5 (refine tkA ?_;try simp only [Act.put,putL_a,putL_z,putL_s,putG_a,putG_s,putG_z])
  refine tk0 ?_
  refine wpAnyL_o 5 fun K hK=>?_
  go_simp;refine (Zlq _ _ _ _ k7 hx hd).mono ?_;rintro e w2 ⟨rfl,rfl⟩;refine hK.out _ _ (fun _=>⟨c1,c3,c4⟩) ?_;clear hK K
  try simp only [Act.put,putL_a,putL_z,putL_s]
  refine Zt2 4 [6,7,9,8] rfl (by kernel_rfl) ⟨c1,c3,c4⟩ ?_
  iterate 4 (refine tkA ?_;try simp only [Act.put,putL_a,putL_z,putL_s,putG_a,putG_s,putG_z])
  refine tk0 ?_
  refine wpAnyL_o 10 fun K hK=>?_
  go_simp
  generalize hW5 : World.drew (World.drew (World.setCell W _ _)) = W5
  have c15 : W5.cell? ⟨w.heap.size,0,none⟩ = some (limb d):=by rw [<- hW5];exact (World.cell?_setCell_other _ _ _ _ (by simp)).trans c1
  have c35 : W5.cell? ⟨w.heap.size + 1 + 1,0,none⟩ = some (.slice (some ⟨w.heap.size + 1,0,none⟩) n n):=by rw [<- hW5];exact (World.cell?_setCell_other _ _ _ _ (by simp)).trans c3
  have c45 : W5.cell? ⟨w.heap.size + 1 + 1 + 1,0,none⟩ = some (limb r):=by rw [<- hW5];exact (World.cell?_setCell_other _ _ _ _ (by simp)).trans c4
  have f45 : W5.frozen? ⟨w.heap.size + 1 + 1 + 1,0,none⟩ = false:=by rw [<- hW5];exact (World.frozen?_setCell _ _ _ _).trans f4
  replace hW5:=Zb hW5;refine hK.out _ _ (fun _=>⟨c15,c35,c45⟩) ?_;clear hK K
  try simp only [Act.put,putL_a,putL_z,putL_s]
  refine Zbn (i:=11) rfl (by kernel_rfl) (by kernel_rfl) (fun K hK=>?_);go_simp;refine hK.out _ _ ?_;clear hK K
  try simp only [Act.put,putL_a,putL_z,putL_s]
  refine wpAnyL_fin ?_
  gi_wp2
  have e1 : ((r : Int) * 4294967296 + ((l[i]?.getD 0 : Nat) : Int)) / (d : Int) = (((r * 4294967296 + l[i]?.getD 0) / d : Nat) : Int):=by simp
  have e2 : ((r : Int) * 4294967296 + ((l[i]?.getD 0 : Nat) : Int)) % (d : Int) = (((r * 4294967296 + l[i]?.getD 0) % d : Nat) : Int):=by simp
  have hW5:=hW5.out;rw [e1] at hW5;rw [e2]
  have hq : (r * 4294967296 + l[i]?.getD 0) / d < 4294967296:=by
   rw [Nat.div_lt_iff_lt_mul (by omega)];have:=Nat.mul_le_mul_left 4294967296 (show r + 1 <= d by omega);omega
  have hr : (r * 4294967296 + l[i]?.getD 0) % d < d:=Nat.mod_lt _ hd0
  have he : (r * 4294967296 + l[i]?.getD 0) / d * d + (r * 4294967296 + l[i]?.getD 0) % d = r * 4294967296 + l[i]?.getD 0:=by rw [Nat.mul_comm];exact Nat.div_add_mod _ _
  generalize (r * 4294967296 + l[i]?.getD 0) / d = q at *
  generalize (r * 4294967296 + l[i]?.getD 0) % d = r' at *
  subst hW5;refine ⟨((KeepsOthers.setCell _ _ _).trans (KeepsOthers.drew _)).trans ((KeepsOthers.drew _).trans (KeepsOthers.setCell _ _ _)),(KpD.set_ (w:=w) (o:=i) hl (by omega) (by omega) (limb q)).trans (KpD.set_ (w:=w) (o:=0) hl (by omega) (by omega) (limb r')),?_,?_⟩
  ·refine DownI.step (x:=⟨i,hi'⟩) (((k1.far (by simp <;> omega) _).drewN 2).far (by simp <;> omega) _) ?_ (((k3.far (by simp <;> omega) _).drewN 2).far (by simp <;> omega) _) (((k4.far (by simp <;> omega) _).drewN 2).set_ 0 (limb r')) k5.out k6 hq hr hl.len hpre k8.out he
   have:=((k2.set_ i (limb q)).drewN 2).far (p:=⟨w.heap.size + 1 + 1 + 1,0,none⟩) (by simp <;> omega) (limb r');rw [Za8] at this;exact this
  ·exact (Zr (hB.setCell (p:=⟨w.heap.size + 1,i,none⟩) (by simp) _) 2).setCell (p:=⟨w.heap.size + 1 + 1 + 1,0,none⟩) (by simp;omega) _
 case done =>
  rintro D ys W hD rfl ⟨⟨o,r,k1,k2,k3,k4,k5,k6,k7,k8⟩,hB⟩ hK;have k8:=k8 (by rw [Zcp (Nat.le_refl _)]);rw [Zcp (Nat.le_refl _),Nat.sub_self,List.drop_zero,List.drop_zero] at k8;obtain ⟨e1,e2⟩:=Zml (U:=val l) (V:=d) (q:=val o) (R:=r) (by omega) k7;have hLo:=Lim.of_blk k2 k6 (by rw [k5];unfold maxLen;omega);rw [k5] at hLo;have k8:=Zb k8;have k5:=Zb k5;have c3:=k3.cell 0;have c4:=k4.cell 0
  simp at c3 c4
  gi_wp2
  refine wpIn_wide.2 ?_
  go_quiet ((go_at_call 71;exact Calls.quiet_of (trim_q _ _ _ _ _ hLo)))
  gi_wp2
  have hK' : (W.drewN nq).heap[D]? = some (.deferred (some [])):=hK;refine ⟨by simp,.inl ⟨_,_,rfl,run_takeDeferred hK',?_⟩⟩;have hL2:=Zjm (hLo.canon.1.drewN nq) (grownBy_putObj' (W.drewN nq) D (.deferred none)) (fun r e=>by cases e;exact ⟨_,hK',rfl⟩);rw [e1] at hL2;refine ⟨.tuple #[.slice (some ⟨w.heap.size + 1,0,none⟩) (digits (val o)).length n,limb (val l % d)],by simp [results,Try.f73,go_sem],⟨_,_,_,by rw [e1],hL2,?_⟩⟩;exact (Zr hB nq).trans (belowK_b (w:=w) (Nat.le_refl _) _ D _ _ (by simp at hD;omega) hK' rfl rfl)
 case stop =>
  rintro D c pre W _ _ h _;exact h.elim
theorem or_add {a b s : Nat} (hb : b < 2 ^ s) : b ||| 2 ^ s * a = b + 2 ^ s * a:=by
 have h2:=Nat.two_pow_add_eq_or_of_lt (i:=s) (b:=b) hb a;rw [Nat.or_comm,<- h2,Nat.add_comm]
def LeftP (w : World) (s : Nat) (l : List Nat) (i cy : Nat) (v : Value) (wr : World) : Prop:=
 ∃ o,OwnL 71 wr w.heap.size v o /\ o.length = i /\ cy < 2 ^ s /\ val o + pw i * cy = 2 ^ s * val (l.take i) /\ Below w.heap.size w wr
theorem Znz (A : Option Addr) (n c s : Nat) (l : List Nat) (w : World) (h : Lim w A n c l) (hs : s < 32) (hn9 : n <= 1000000) :
    Calls Try.prog 75 #[.slice A n c,.int .i64 s] w (fun e w'=>∃ v o,e = .returned v /\ OwnL 71 w' w.heap.size v o /\ o.length = n + 1 /\ val o = 2 ^ s * val l /\ Below w.heap.size w w'):=by
 obtain ⟨i0,hi,hz0,hz1,hz2⟩:=info_parts Zcl;have hnc:=h.2.1;have hcm:=h.2.2.1;unfold maxLen at hcm
 have hmk : ∀ W : World,(Instr.makeSlice 24 (.int .i64 0) (.int .i64 ((n : Int) + 1))).run Try.prog W = .ok (.slice (some ⟨W.heap.size,0,none⟩) 0 (n + 1)) (W.alloc (.cells (Zt (List.replicate (n + 1) 0)) 71)):=fun W=>by
  have hr:=run_make (P:=Try.prog) W 24 71 i0 _ Try.underlying24 hi hz0 .i64 .i64 0 ((n : Int) + 1) (by omega) (by omega) (by rw [hz2];omega) (by omega);rw [hr,hz1]
  have : madeCells (Value.int .u32 0).cells (((n : Int) + 1).toNat * 1) = Zt (List.replicate (n + 1) 0):=by
   rw [show ((n : Int) + 1).toNat * 1 = n + 1 by omega]
   apply Array.toList_inj.1
   rw [show (Value.int .u32 0).cells = #[.int .u32 0] from rfl,toList_madeCells_one]
   simp [Zt,limb]
  rw [this,show ((n : Int) + 1).toNat = n + 1 by omega]
  rfl
 have hO : OwnL 71 (w.alloc (.cells (Zt (List.replicate (n + 1) 0)) 71)) w.heap.size (.slice (some ⟨w.heap.size,0,none⟩) 0 (n + 1)) []:=
  ⟨⟨rfl,.inr ⟨w.heap.size,n + 1,_,rfl,Nat.le_refl _,heap_alloc_new _ _,Nat.zero_le _,by unfold maxLen;omega,by simp [Zt],by simp⟩⟩,Lt32.nil⟩
 have q3 : ((s : Int) / 32) = 0:=by omega
 have q4 : ((s : Int) % 32) = (s : Int):=by omega
 go_enter Try.func75,Try.ntmps75;go_wp2_with fail
 go_loopw [20,6,5] (fun iv cv ov wr=>∃ i cy : Nat,i <= n /\ iv = .int .i64 i /\ cv = .int .u64 cy /\ LeftP w s l i cy ov wr) (fun iv _ _ _=>n - (intOf iv).toNat)
 case atStart=>exact ⟨0,0,Nat.zero_le _,rfl,rfl,[],hO,rfl,Nat.pow_pos (by omega),by simp [val],(Below.refl _ _).alloc (Nat.le_refl _) _⟩
 case round =>
  obtain ⟨i,cy,hin,rfl,rfl,o,hown,hol,hcy,hI,hB⟩:=hrel;replace hol:=Zb hol;replace hI:=Zb hI
  by_cases hi' : i < n
  ·obtain ⟨b,of,rfl,hcell⟩:=(h.below hB).at_ hi'
   have hx:=h.lt.get i;obtain ⟨p,hp⟩ : ∃ p,2 ^ s = p:=⟨_,rfl⟩
   have hpb : p <= 2147483648:=by rw [<- hp];exact Nat.pow_le_pow_right (by omega) (show s <= 31 by omega)
   have hxb : p * l[i]?.getD 0 <= 2147483648 * 4294967295:=Nat.mul_le_mul hpb (by omega)
   have hor : bits .or .u64 (cy : Int) (IntKind.u64.wrap (((l[i]?.getD 0 : Nat) : Int) * 2 ^ s)) = ((cy + p * l[i]?.getD 0 : Nat) : Int):=by
    have e1 : (((l[i]?.getD 0 : Nat) : Int) * 2 ^ s) = ((p * l[i]?.getD 0 : Nat) : Int):=by rw [<- hp];push_cast;rw [Int.mul_comm]
    have hcp : cy < 18446744073709551616:=by omega
    rw [e1,IntKind.wrap_u64,show (((p * l[i]?.getD 0 : Nat) : Int) % 18446744073709551616) = ((p * l[i]?.getD 0 : Nat) : Int) by omega,u64_or_nat _ _ hcp (by omega),<- hp,or_add hcy]
   rw [hp] at hcy;replace hp:=Zb hp;have hs0 : Hid (val (l.take (i + 1)) = val (l.take i) + pw i * l[i]?.getD 0):=Zx l i;obtain ⟨x,hxe⟩ : ∃ x,l[i]?.getD 0 = x:=⟨_,rfl⟩;rw [hxe] at hcell hx hxb hor hs0;replace hxe:=Zb hxe;obtain ⟨t,ht⟩ : ∃ t,cy + p * x = t:=⟨_,rfl⟩
   have htb : t / 4294967296 < p:=by
    rw [Nat.div_lt_iff_lt_mul (by omega),<- ht]
    have : p * x + p <= p * 4294967296:=by rw [<- Nat.mul_succ];exact Nat.mul_le_mul_left _ (by omega)
    omega
   rw [ht] at hor;replace ht:=Zb ht;go_wp2_with (at_builtin;refine Zq _ rfl (.tmp 31) (.tmp 34) 24 rfl w.heap.size 71 i0 _ 1 4 Try.underlying24 hi hz0 hz1 hz2 rfl (by omega) _ i (o.map limb) rfl (by have:=hol.out;subst this;exact hown.1.alloc _) _ _ 1 1 _ rfl (Za6 _ _ _) (by simp [Value.oneCell']) (by simp only [maxLen];omega) (by omega) (by have:=hB.size;simp;omega) ?_;intro v1 w1 hown1 hg1 hat1);have hown2 : OwnL 71 w1 w.heap.size v1 (o ++ [t % 4294967296]):=OwnL.snoc (s:=t % 4294967296) hol.out.symm hown1 hown.2 (by omega) (Nat.mod_lt _ (by decide));have hB1:=(hB.alloc hB.size _).grown hg1 (by have:=hB.size;simp;omega) hown.row_ge
   go_roundw
   case rel =>
    refine ⟨i + 1,t / 4294967296,by omega,by go_num,by go_num,_,hown2,by rw [List.length_append,hol.out];rfl,by rw [hp.out];exact htb,?_,hB1⟩;rw [Zdo,hol.out,hs0.out,hp.out,Nat.mul_add,Zal];have h1:=hI.out;rw [hp.out] at h1
    have h2 : pw i * (t % 4294967296) + 4294967296 * pw i * (t / 4294967296) = pw i * t:=by
     rw [Nat.mul_comm 4294967296 (pw i),Nat.mul_assoc,<- Nat.mul_add,Nat.mod_add_div]
    have h3 : p * (pw i * x) = pw i * (p * x):=by rw [Nat.mul_left_comm]
    rw [h3,<- h1,Nat.add_assoc,h2,<- ht.out,Nat.mul_add];omega
   case measure=>simp [intOf];omega
  ·obtain rfl : i = n:=by omega
   have hlen:=Zb h.len;have hcy2 : cy < 4294967296:=Nat.lt_of_lt_of_le hcy (show 2 ^ s <= 4294967296 from Nat.le_trans (Nat.pow_le_pow_right (by decide) (show s <= 32 by omega)) (by decide))
   have hcm : ((cy : Int)) % 4294967296 = (cy : Int):=by omega
   clear h;go_wp2_with (at_builtin;refine Zq _ rfl (.tmp 39) (.tmp 42) 24 rfl w.heap.size 71 i0 _ 1 4 Try.underlying24 hi hz0 hz1 hz2 rfl (by omega) _ i (o.map limb) rfl (by have:=hol.out;subst this;exact hown.1.alloc _) _ _ 1 1 _ rfl (Za6 _ _ _) (by simp [Value.oneCell']) (by simp only [maxLen];omega) (by omega) (by have:=hB.size;simp;omega) ?_;intro v1 w1 hown1 hg1 hat1);have hown2 : OwnL 71 w1 w.heap.size v1 (o ++ [cy]):=OwnL.snoc (s:=cy) hol.out.symm hown1 hown.2 (by omega) hcy2;have hB1:=(hB.alloc hB.size _).grown hg1 (by have:=hB.size;simp;omega) hown.row_ge;go_ret;refine ⟨v1,_,rfl,hown2,by rw [List.length_append,hol.out];rfl,?_,hB1⟩;rw [Zdo,hol.out,hI.out,Z1 (by rw [hlen.out];exact Nat.le_refl _)]
theorem Zou (A : Option Addr) (c : Nat) (fn : Value) (w : World) :
    Calls Try.prog 97 #[.slice A 0 c,fn] w fun e w'=>e = .returned (.int .i64 (-1)) /\ w = w':=by
 go_enter Try.func97,Try.ntmps97;go_wp2_with fail
 go_loop [8] (fun v=>v = .int .i64 0) (fun _=>0)
 case atStart=>rfl
 case round =>
  subst hrel;go_wp2_with fail;go_ret;exact ⟨rfl,rfl⟩
theorem Zk0 (A : Option Addr) (c : Nat) (fn : Value) (w : World) :
    Calls Try.prog 92 #[.slice A 0 c,fn] w fun e w'=>e = .returned (.bool false) /\ w = w':=by
 go_enter Try.func92,Try.ntmps92;go_wp2_with (go_at_call 97;refine (Zou _ _ _ _).mono ?_;rintro e w' ⟨rfl,rfl⟩);go_ret;exact ⟨rfl,rfl⟩
def RightP (w : World) (l : List Nat) (s : Nat) (e : Ending) (w' : World) : Prop:=
 ∃ A n c o b,e = .returned (.tuple #[.slice A n c,.bool b]) /\ Lim w' A n c o /\ val o = val l / 2 ^ s /\ Below w.heap.size w w'
theorem Zqf (A : Option Addr) (n c s : Nat) (l : List Nat) (w : World) (hl : Lim w A n c l) (hs : s < 32) (hn9 : n <= 1000000) :
    Calls Try.prog 77 #[.slice A n c,.int .i64 s] w (RightP w l s):=by
 obtain ⟨i0,hi,hz0,hz1,hz2⟩:=info_parts Zcl;have hmk:=Zfj (P:=Try.prog) 24 71 Try.underlying24 hi hz0 hz1 hz2 (n : Int) n rfl (by omega);have hnc:=hl.2.1;have hcm:=hl.2.2.1;unfold maxLen at hcm
 have q3 : ((s : Int) / 32) = 0:=by omega
 have q4 : ((s : Int) % 32) = (s : Int):=by omega
 have h9 : 1 <= 9:=by omega
 refine (callsIn_wide (n:=9)).1 ?_;refine callsIn_of_wp_marks Try.func77 rfl trivial ?_ rfl;simp only [Try.ntmps77,List.size_toArray,List.length_cons,List.length_nil,Nat.reduceAdd,Nat.reduceSub,Array.replicate_succ,Array.replicate_zero,List.push_toArray,List.append_toArray,List.nil_append,List.cons_append]
 gi_wp2_with (first | (refine ⟨trivial,?_⟩;gi_at_call 92;refine (callsIn_wide.2 (Zk0 _ _ _ _)).mono ?_;rintro e w' ⟨rfl,rfl⟩) | (refine ⟨trivial,?_⟩;gi_at_call 88;refine (callsIn_wide.2 (Zkh _ _ _ _)).mono ?_;rintro e w' ⟨rfl,rfl⟩))
 have bD:=Blk.new w 3 #[.int .i64 (s : Int)];have bO:=Blk.new (w.alloc (.cells #[.int .i64 (s : Int)] 3)) 71 (Zt (List.replicate n 0));have b6:=Blk.new ((w.alloc (.cells #[.int .i64 (s : Int)] 3)).alloc (.cells (Zt (List.replicate n 0)) 71)) 24 #[(.slice (some ⟨w.heap.size + 1,0,none⟩) n n)];have b7:=Blk.new (((w.alloc (.cells #[.int .i64 (s : Int)] 3)).alloc (.cells (Zt (List.replicate n 0)) 71)).alloc (.cells #[(.slice (some ⟨w.heap.size + 1,0,none⟩) n n)] 24)) 74 #[.int .u64 0];have bN:=Boxed.new ((((w.alloc (.cells #[.int .i64 (s : Int)] 3)).alloc (.cells (Zt (List.replicate n 0)) 71)).alloc (.cells #[(.slice (some ⟨w.heap.size + 1,0,none⟩) n n)] 24)).alloc (.cells #[.int .u64 0] 74)) 24 (.slice A n c);simp only [World.size_alloc] at bO b6 b7 bN
 have hB0 : Below w.heap.size w (((((w.alloc (.cells #[.int .i64 (s : Int)] 3)).alloc (.cells (Zt (List.replicate n 0)) 71)).alloc (.cells #[(.slice (some ⟨w.heap.size + 1,0,none⟩) n n)] 24)).alloc (.cells #[.int .u64 0] 74)).alloc (.cells #[.slice A n c] 24)):=by go_grown
 have h0 : DownI w.heap.size n (2 ^ s) l (fun r=>.int .u64 (r : Int)) 24 74 (.int .i64 (s : Int)) 3 [] (((((w.alloc (.cells #[.int .i64 (s : Int)] 3)).alloc (.cells (Zt (List.replicate n 0)) 71)).alloc (.cells #[(.slice (some ⟨w.heap.size + 1,0,none⟩) n n)] 24)).alloc (.cells #[.int .u64 0] 74)).alloc (.cells #[.slice A n c] 24)):=
  ⟨List.replicate n 0,0,(((bD.alloc _).alloc _).alloc _).alloc _,((bO.alloc _).alloc _).alloc _,(b6.alloc _).alloc _,b7.alloc _,by simp,Lt32.replicate _,Nat.pow_pos (by omega),fun _=>by rw [List.length_nil,Nat.sub_zero,List.drop_of_length_le (by simp),List.drop_of_length_le (by rw [hl.len];exact Nat.le_refl _)];simp [val]⟩
 have hmx : Try.prog.follows .mixedOrders = true:=by kernel_rfl
 refine wpIn_rangeFunc_ownF rfl h9 (gf:=96) (lb:=#[.pointer (some ⟨w.heap.size + 1 + 1 + 1 + 1,0,none⟩)]) rfl trivial (enters_of Try.func96 (by kernel_rfl) rfl)
  (Zhg 8 (by omega) (w.heap.size + 1 + 1 + 1 + 1) n c A l _ bN.cell (hl.below hB0)) KpD.trans (fun W l o o' _ h hc _=>KpD.put W l o o' h hc) (Below.refl _ _) (fun _=>rfl)
  (fun pre W=>DownI w.heap.size n (2 ^ s) l (fun r=>.int .u64 (r : Int)) 24 74 (.int .i64 (s : Int)) 3 pre W /\ Below w.heap.size w W)
  (fun _ _ _=>False)
  (OwnFrom.and (Own.from (fun s X Y row hs hg hr=>hs.own hg hr) _) (ownFrom_below (Nat.le_refl _) (by simp;omega)))
  (fun cc=>Own.from (fun s X Y row hs hg hr=>hs) _)
  ⟨h0,hB0⟩
  (fun x=>{ tmps:=#[Value.slice A n c,Value.int IntKind.i64 (s : Int),undef,Value.pointer (some ⟨w.heap.size,0,none⟩),Value.slice none 0 0,Value.bool false,Value.int IntKind.i64 0,Value.bool false,Value.pointer (some ⟨w.heap.size + 1 + 1,0,none⟩),Value.pointer (some ⟨w.heap.size + 1 + 1 + 1,0,none⟩),.int .i64 (x.1 : Int),limb (l[x.1]?.getD 0),Value.int IntKind.i64 (s : Int),Value.int IntKind.i64 0,Value.slice A n c,Value.int IntKind.i64 (n : Int),Value.int IntKind.i64 0,Value.slice A n c,Value.int IntKind.i64 0,Value.slice A 0 c,Value.bool false,Value.slice A n c,Value.int IntKind.i64 (n : Int),Value.int IntKind.i64 0,Value.int IntKind.i64 (n : Int),Value.slice (some ⟨w.heap.size + 1,0,none⟩) n n,Value.slice A n c,Value.int IntKind.i64 0,Value.slice A n c,.func (.func 96) #[] #[.pointer (some ⟨w.heap.size + 1 + 1 + 1 + 1,0,none⟩)],.int .i64 (x.1 : Int),limb (l[x.1]?.getD 0),undef,undef,undef,undef,undef,undef,undef,undef,undef,undef,undef,undef,undef,undef,undef,undef,undef,undef,undef,undef,undef,undef,undef,undef,undef],defers:=[] }) ?assign ?body ?done ?stop
 case assign =>
  intro l x W K hK;dsimp only [Zgn]
  gi_wp2
  exact hK
 case body =>
  rintro lp pre x W ⟨⟨o,r,k1,k2,k3,k4,k5,k6,k7,k8⟩,hB⟩ hpre;obtain ⟨i,hi'⟩:=x;have k8:=Zb k8;have k5:=Zb k5;have c1:=k1.cell 0;have c3:=k3.cell 0;have c4:=k4.cell 0;have f4:=k4.frozen 0;have c2:=k2.cell i;rw [Zab o i (by rw [k5.out];exact hi')] at c2;have f2:=k2.frozen i
  simp at c1 c3 c4
  have hx:=hl.lt.get i;obtain ⟨p,hp⟩ : ∃ p,2 ^ s = p:=⟨_,rfl⟩
  have hp0 : 0 < p:=by rw [<- hp];exact Nat.pow_pos (by omega)
  have hpb : p <= 2147483648:=by rw [<- hp];exact Nat.pow_le_pow_right (by omega) (show s <= 31 by omega)
  rw [hp] at k7;obtain ⟨t,ht⟩ : ∃ t,r * 4294967296 + l[i]?.getD 0 = t:=⟨_,rfl⟩
  have htb : t < 9223372036854775808:=by omega
  have htq : t / p < 4294967296:=by
   rw [Nat.div_lt_iff_lt_mul hp0];have:=Nat.mul_le_mul_left 4294967296 (show r + 1 <= p by omega);omega
  have hor : bits .or .u64 ((r : Int) * 4294967296) ((l[i]?.getD 0 : Nat) : Int) = (t : Int):=by
   have h1 : ((r : Int) * 4294967296) = ((4294967296 * r : Nat) : Int):=by omega
   rw [h1,u64_or_nat _ _ (by omega) (by omega)];have h2:=Nat.two_pow_add_eq_or_of_lt (i:=32) (b:=l[i]?.getD 0) (by omega) r;rw [show (2 : Nat) ^ 32 = 4294967296 by rfl] at h2;rw [<- h2];omega
  have k7' : r * 4294967296 < 9223372036854775808:=by omega
  have q5 : ((s : Int)).tmod 32 = (s : Int):=by rw [Int.tmod_eq_emod_of_nonneg (by omega)];exact q4
  replace ht:=Zb ht;replace hp:=Zb hp;obtain ⟨wo,hwo⟩ : ∃ wo : World,wo = W:=⟨_,rfl⟩;replace hwo:=Zb hwo
  gi_wp2
  generalize hW1 : World.setCell W ⟨w.heap.size + 1 + 1 + 1,0,none⟩ _ = W1
  have a1 : W1.cell? ⟨w.heap.size,0,none⟩ = some (.int .i64 (s : Int)):=by rw [<- hW1];exact (World.cell?_setCell_other _ _ _ _ (by simp <;> omega)).trans c1
  have a2 : W1.cell? ⟨w.heap.size + 1,i,none⟩ = some (limb (o[i]?.getD 0)):=by rw [<- hW1];exact (World.cell?_setCell_other _ _ _ _ (by simp <;> omega)).trans c2
  have a3 : W1.cell? ⟨w.heap.size + 1 + 1,0,none⟩ = some (.slice (some ⟨w.heap.size + 1,0,none⟩) n n):=by rw [<- hW1];exact (World.cell?_setCell_other _ _ _ _ (by simp <;> omega)).trans c3
  have a4 : W1.cell? ⟨w.heap.size + 1 + 1 + 1,0,none⟩ = some (.int .u64 (t : Int)):=by rw [<- hW1];exact World.cell?_setCell_same _ _ _ c4
  have g2 : W1.frozen? ⟨w.heap.size + 1,i,none⟩ = false:=by rw [<- hW1];exact (World.frozen?_setCell _ _ _ _).trans f2
  have g4 : W1.frozen? ⟨w.heap.size + 1 + 1 + 1,0,none⟩ = false:=by rw [<- hW1];exact (World.frozen?_setCell _ _ _ _).trans f4
  replace hW1:=Zb hW1;refine Zcs [8] (fun W'=>W'.cell? ⟨w.heap.size,0,none⟩ = some (.int .i64 (s : Int)) /\ W'.cell? ⟨w.heap.size + 1 + 1,0,none⟩ = some (.slice (some ⟨w.heap.size + 1,0,none⟩) n n) /\ W'.cell? ⟨w.heap.size + 1 + 1 + 1,0,none⟩ = some (.int .u64 (t : Int))) hmx (by kernel_rfl) ⟨a1,a3,a4⟩ (fun _=>?_);refine Zt2 8 [0,1,2,3,4,5,6,7] rfl (by kernel_rfl) ⟨a1,a3,a4⟩ ?_
  iterate 8 (refine tkA ?_;try simp only [Act.put,putL_a,putL_z,putL_s,putG_a,putG_s,putG_z])
  refine tk0 ?_;refine Zbn (i:=8) rfl (by kernel_rfl) (by kernel_rfl) (fun K hK=>?_);go_simp;refine hK.out _ _ ?_;clear hK K
  try simp only [Act.put,putL_a,putL_z,putL_s]
  refine wpAnyL_fin ?_
  generalize hW2 : World.drew (World.setCell W1 _ _) = W2
  have b1 : W2.cell? ⟨w.heap.size,0,none⟩ = some (.int .i64 (s : Int)):=by rw [<- hW2];exact (World.cell?_setCell_other _ _ _ _ (by simp <;> omega)).trans a1
  have b4 : W2.cell? ⟨w.heap.size + 1 + 1 + 1,0,none⟩ = some (.int .u64 (t : Int)):=by rw [<- hW2];exact (World.cell?_setCell_other _ _ _ _ (by simp <;> omega)).trans a4
  have h4 : W2.frozen? ⟨w.heap.size + 1 + 1 + 1,0,none⟩ = false:=by rw [<- hW2];exact (World.frozen?_setCell _ _ _ _).trans g4
  replace hW2:=Zb hW2;clear a1 a2 a3 a4 g2 g4 c1 c2 c3 c4 f2 f4
  gi_wp2
  refine Zcs [6] (fun W'=>W'.cell? ⟨w.heap.size,0,none⟩ = some (.int .i64 (s : Int)) /\ W'.cell? ⟨w.heap.size + 1 + 1 + 1,0,none⟩ = some (.int .u64 (t : Int))) hmx (by kernel_rfl) ⟨b1,b4⟩ (fun _=>?_);refine Zt2 6 [0,1,2,3,4,5] rfl (by kernel_rfl) ⟨b1,b4⟩ ?_
  iterate 6 (refine tkA ?_;try simp only [Act.put,putL_a,putL_z,putL_s,putG_a,putG_s,putG_z])
  refine tk0 ?_;refine Zbn (i:=6) rfl (by kernel_rfl) (by kernel_rfl) (fun K hK=>?_);go_simp;refine hK.out _ _ ?_;clear hK K
  try simp only [Act.put,putL_a,putL_z,putL_s]
  refine wpAnyL_fin ?_
  generalize hW3 : World.drew (World.setCell W2 _ _) = W3
  gi_wp2
  have hp:=hp.out;have ht:=ht.out
  have z0 : ((2 : Int) ^ s) = (p : Int):=by rw [<- hp];push_cast;rfl
  have z1 : IntKind.u32.wrap ((t : Int) / 2 ^ s) = ((t / p : Nat) : Int):=by
   rw [z0,show (t : Int) / (p : Int) = ((t / p : Nat) : Int) from rfl]
   generalize t / p = z at *
   simp only [IntKind.wrap_u32];omega
  have z2 : bits BinOp.and IntKind.u64 (t : Int) (IntKind.u64.wrap (IntKind.u64.wrap (2 ^ s) - 1)) = ((t % p : Nat) : Int):=by
   rw [z0,show IntKind.u64.wrap (IntKind.u64.wrap (p : Int) - 1) = ((p - 1 : Nat) : Int) by simp only [IntKind.wrap_u64];omega,u64_and_nat _ _ (by omega) (by omega),<- hp,Nat.and_two_pow_sub_one_eq_mod]
  have hW1:=hW1.out;have hW2:=hW2.out;rw [z1] at hW2;rw [z2] at hW3;have hr : t % p < p:=Nat.mod_lt _ hp0
  have he : t / p * p + t % p = r * 4294967296 + l[i]?.getD 0:=by rw [ht,Nat.mul_comm];exact Nat.div_add_mod _ _
  generalize t / p = q at *
  generalize t % p = r' at *
  subst hp;subst hW1;subst hW2;subst hW3;refine ⟨((KeepsOthers.setCell _ _ _).trans ((KeepsOthers.setCell _ _ _).trans (KeepsOthers.drew _))).trans ((KeepsOthers.setCell _ _ _).trans (KeepsOthers.drew _)),((KpD.set_ (w:=w) (o:=0) hl (by omega) (by omega) (.int .u64 (t : Int))).trans (KpD.set_ (w:=w) (o:=i) hl (by omega) (by omega) (limb q))).trans (KpD.set_ (w:=w) (o:=0) hl (by omega) (by omega) (.int .u64 (r' : Int))),?_,?_⟩
  ·refine DownI.step (x:=⟨i,hi'⟩) (((((k1.far (by simp <;> omega) _).far (by simp <;> omega) _).drewN 1).far (by simp <;> omega) _).drewN 1) ?_ (((((k3.far (by simp <;> omega) _).far (by simp <;> omega) _).drewN 1).far (by simp <;> omega) _).drewN 1) (((((k4.set_ 0 (.int .u64 (t : Int))).far (by simp <;> omega) _).drewN 1).set_ 0 (.int .u64 (r' : Int))).drewN 1) k5.out k6 htq hr hl.len hpre k8.out he
   have:=((((k2.far (p:=⟨w.heap.size + 1 + 1 + 1,0,none⟩) (by simp <;> omega) (.int .u64 (t : Int))).set_ i (limb q)).drewN 1).far (p:=⟨w.heap.size + 1 + 1 + 1,0,none⟩) (by simp <;> omega) (.int .u64 (r' : Int))).drewN 1;rw [Za8] at this;exact this
  ·exact Zr ((Zr ((hB.setCell (p:=⟨w.heap.size + 1 + 1 + 1,0,none⟩) (by simp <;> omega) _).setCell (p:=⟨w.heap.size + 1,i,none⟩) (by simp <;> omega) _) 1).setCell (p:=⟨w.heap.size + 1 + 1 + 1,0,none⟩) (by simp <;> omega) _) 1
 case done =>
  rintro D ys W hD rfl ⟨⟨o,r,k1,k2,k3,k4,k5,k6,k7,k8⟩,hB⟩ hK;have k8:=k8 (by rw [Zcp (Nat.le_refl _)]);rw [Zcp (Nat.le_refl _),Nat.sub_self,List.drop_zero,List.drop_zero] at k8;obtain ⟨e1,e2⟩:=Zml (U:=val l) (V:=2 ^ s) (q:=val o) (R:=r) (by omega) k7;have hLo:=Lim.of_blk k2 k6 (by rw [k5];unfold maxLen;omega);rw [k5] at hLo;replace k8:=Zb k8;replace k5:=Zb k5;replace e1:=Zb e1;clear e2;have c3:=k3.cell 0;have c4:=k4.cell 0
  simp at c3 c4
  gi_wp2
  refine wpIn_wide.2 ?_
  go_quiet (fail)
  gi_wp2
  have hK' : (W.drewN nq).heap[D]? = some (.deferred (some [])):=hK;refine ⟨by simp,.inl ⟨_,_,rfl,run_takeDeferred hK',?_⟩⟩;have hL2:=Zjm (hLo.drewN nq) (grownBy_putObj' (W.drewN nq) D (.deferred none)) (fun r e=>by cases e;exact ⟨_,hK',rfl⟩);refine ⟨.tuple #[.slice (some ⟨w.heap.size + 1,0,none⟩) n n,.bool (decide ((0 : Int) < r))],by simp [results,Try.f77,go_sem],⟨_,_,_,_,_,rfl,hL2,e1.out,?_⟩⟩;exact (Zr hB nq).trans (belowK_b (w:=w) (Nat.le_refl _) _ D _ _ (by simp at hD;omega) hK' rfl rfl)
 case stop =>
  rintro D c pre W _ _ h _;exact h.elim
end Go.Proofs.Ythappeninglakaa
