/- Centroids: sums over a list of pixels, moments about a -/
import Derived.Test.YtpehacgjclkhmaaGreatZx30
import Derived.Test.YtpehacgjclkhmaaGreatZx29
set_option linter.unusedSimpArgs false
set_option linter.unusedVariables false
namespace Go.Proofs.YtpehacgjclkhmaaGreat
open Go.RowKit
theorem Zgg (a b : Int) (h : b ≠ 0) : (Rat.divInt a b).num.natAbs <= a.natAbs:=by
 rw [Rat.num_divInt];rw [Int.natAbs_ediv_of_dvd]
 ·refine Nat.le_trans (Nat.div_le_self _ _) ?_
  rw [Int.natAbs_mul]
  rcases Int.lt_or_gt_of_ne h with g | g
  ·rw [Int.sign_eq_neg_one_of_neg g];simp
  ·rw [Int.sign_eq_one_of_pos g];simp
 ·exact Int.dvd_trans (Int.gcd_dvd_right _ _) (Int.dvd_mul_left _ _)
theorem Zf6 (a b : Int) (h : b ≠ 0) : (Rat.divInt a b).den <= b.natAbs:=by
 rw [Rat.den_divInt,if_neg h];exact Nat.div_le_self _ _
theorem Zrl : 1 < pw 1:=by rw [Zak,Zci];decide
def SmN (i j : Nat) (r : Rat) : Prop:=r.num.natAbs < pw i /\ r.den < pw j
theorem SmN.sm {i j : Nat} {r : Rat} (h : SmN i j r) (hi : i <= 1000) (hj : j <= 1000) : Sm r:=⟨Nat.lt_of_lt_of_le h.1 (Zdv hi),Nat.lt_of_lt_of_le h.2 (Zdv hj)⟩
theorem SmN.mono {i j i' j' : Nat} {r : Rat} (h : SmN i j r) (hi : i <= i') (hj : j <= j') : SmN i' j' r:=⟨Nat.lt_of_lt_of_le h.1 (Zdv hi),Nat.lt_of_lt_of_le h.2 (Zdv hj)⟩
theorem SmN.div {i j : Nat} {n s : Int} (h0 : 0 < s) (hn : n.natAbs < pw i) (hs : s.natAbs < pw j) : SmN i j (Rat.divInt n s):=
 ⟨Nat.lt_of_le_of_lt (Zgg n s (by omega)) hn,Nat.lt_of_le_of_lt (Zf6 n s (by omega)) hs⟩
theorem SmN.int {i : Nat} {n : Int} (hn : n.natAbs < pw i) : SmN i 1 (n : Rat):=⟨by simpa using hn,by simp only [Rat.den_intCast];exact Zrl⟩
theorem Zru {x y z v : Int} {i j i' j' : Nat} (hx : x.natAbs < pw i) (hy : y.natAbs < pw j) (hz : z.natAbs < pw i') (hv : v.natAbs < pw j') : (x * y).natAbs + (z * v).natAbs < pw (max (i + j) (i' + j') + 1):=by
 have h1 : (x * y).natAbs < pw (max (i + j) (i' + j')):=by
  rw [Int.natAbs_mul];exact Nat.lt_of_lt_of_le (Zcl hx hy) (Zdv (by omega))
 have h2 : (z * v).natAbs < pw (max (i + j) (i' + j')):=by
  rw [Int.natAbs_mul];exact Nat.lt_of_lt_of_le (Zcl hz hv) (Zdv (by omega))
 have h3:=Zum (max (i + j) (i' + j'));omega
theorem SmN.dn {i j : Nat} {r : Rat} (h : SmN i j r) : ((r.den : Nat) : Int).natAbs < pw j:=by simpa using h.2
theorem SmN.sub {i j i' j' : Nat} {a b : Rat} (ha : SmN i j a) (hb : SmN i' j' b) : SmN (max (i + j') (i' + j) + 1) (j + j') (a - b):=by
 rw [<- Zmk];refine SmN.div (Zba a b) ?_ ?_
 ·have:=Zru ha.1 hb.dn hb.1 ha.dn;omega
 ·rw [Int.natAbs_mul];exact Zcl ha.dn hb.dn
structure RF where
 g : Nat
 c : Nat
 q : List Rat
def RF.rs (r : RF) : RS:=⟨some ⟨r.g,0,none⟩,r.q.length,r.c⟩
def MatB (tS tF : TypeId) (w : World) (go : Nat) (L : List RF) : Prop:=
 (∃ zs,Blk w go tS (Zbr (L.map RF.rs ++ zs))) /\ (∀ r ∈ L,FOwn tF w r.g r.q /\ r.q.length <= r.c /\ r.c <= maxLen) /\ (go :: L.map RF.g).Nodup
section
variable {tS tF : TypeId} {w w' : World} {go : Nat} {L : List RF}
theorem MatB.below (h : MatB tS tF w go L) (hb : Below w.heap.size w w') : MatB tS tF w' go L:=by
 obtain ⟨⟨zs,h1⟩,h2,h3⟩:=h;exact ⟨⟨zs,Zc hb h1⟩,fun r hr=>⟨(h2 r hr).1.below hb,(h2 r hr).2⟩,h3⟩
theorem MatB.cell (h : MatB tS tF w go L) {i : Nat} {r : RF} (hr : L[i]? = some r) : w.cell? ⟨go,i,none⟩ = some (.slice (some ⟨r.g,0,none⟩) r.q.length r.c) /\ w.frozen? ⟨go,i,none⟩ = false:=by
 obtain ⟨⟨zs,h1⟩,-,-⟩:=h;refine ⟨?_,h1.frozen i⟩;rw [h1.cell];refine Zhx (e:=r.rs) ?_;have hi:=(List.getElem?_eq_some_iff.1 hr).1;rw [List.getElem?_append_left (by simpa using hi),List.getElem?_map,hr];rfl
theorem MatB.row (h : MatB tS tF w go L) {i : Nat} {r : RF} (hr : L[i]? = some r) : FOwn tF w r.g r.q /\ r.q.length <= r.c /\ r.c <= maxLen:=h.2.1 r (List.mem_of_getElem? hr)
theorem MatB.ne (h : MatB tS tF w go L) {i : Nat} {r : RF} (hr : L[i]? = some r) : go ≠ r.g:=fun e=>by
 have:=(List.nodup_cons.1 h.2.2).1;exact this (List.mem_map.2 ⟨r,List.mem_of_getElem? hr,e.symm⟩)
theorem MatB.ne2 (h : MatB tS tF w go L) {i j : Nat} {r s : RF} (hr : L[i]? = some r) (hs : L[j]? = some s) (hij : i ≠ j) : r.g ≠ s.g:=fun e=>by
 have hn:=(List.nodup_cons.1 h.2.2).2
 have h1 : (L.map RF.g)[i]? = some r.g:=by rw [List.getElem?_map,hr];rfl
 have h2 : (L.map RF.g)[j]? = some r.g:=by rw [List.getElem?_map,hs,e];rfl
 exact hij ((List.getElem?_inj (by have:=(List.getElem?_eq_some_iff.1 h1).1;exact this) hn).1 (h1.trans h2.symm))
theorem MatB.boxes (h : MatB tS tF w go L) : ∀ k,(k = go \/ k ∈ L.map RF.g) -> ∃ t cs,Blk w k t cs /\ NoLimb cs:=by
 intro k hk;obtain ⟨⟨zs,h1⟩,h2,-⟩:=h
 rcases hk with rfl | hk
 ·exact ⟨tS,_,h1,Ze6 _⟩
 ·obtain ⟨r,hr,rfl⟩:=List.mem_map.1 hk
  exact (h2 r hr).1.box
theorem MatB.set_ (h : MatB tS tF w go L) {i : Nat} {r : RF} (hr : L[i]? = some r) {k : Nat} (hk : k < r.q.length) {na : Bool} {A : Option Addr} {n c : Nat} {nb : Bool} {B : Option Addr} {m d : Nat} {x : Rat} (hf : Fr w na A n c nb B m d x) :
    MatB tS tF (Zgd w r.g k na A n c nb B m d) go (L.set i ⟨r.g,r.c,r.q.set k x⟩):=by
 have hne:=h.ne hr
 have hne2:=fun {j : Nat} {s : RF} (hs : L[j]? = some s) (hij : j ≠ i)=>h.ne2 hs hr hij
 have hrow:=h.row hr;have hi:=(List.getElem?_eq_some_iff.1 hr).1;obtain ⟨⟨zs,h1⟩,h2,h3⟩:=h;refine ⟨⟨zs,?_⟩,fun s hs=>?_,?_⟩
 ·have e : (L.set i ⟨r.g,r.c,r.q.set k x⟩).map RF.rs = L.map RF.rs:=by
    rw [List.map_set]
    apply List.ext_getElem?
    intro j;rw [List.getElem?_set]
    by_cases hij : i = j
    ·subst hij
     rw [if_pos rfl,if_pos (by simpa using hi),List.getElem?_map,hr]
     simp [RF.rs]
    ·rw [if_neg hij]
  rw [e];exact Zn9 h1 hne
 ·obtain ⟨j,hj,hjs⟩:=List.getElem_of_mem hs
  have hs2 : (L.set i ⟨r.g,r.c,r.q.set k x⟩)[j]? = some s:=by rw [List.getElem?_eq_getElem hj,hjs]
  rw [List.getElem?_set] at hs2
  by_cases hij : i = j
  ·subst hij
   rw [if_pos rfl,if_pos hi] at hs2
   cases hs2
   exact ⟨hrow.1.set_ hk hf,by simpa using hrow.2.1,hrow.2.2⟩
  ·rw [if_neg hij] at hs2
   have:=h2 s (List.mem_of_getElem? hs2);exact ⟨this.1.other (hne2 hs2 (Ne.symm hij)) hrow.1.box,this.2⟩
 ·have e : (L.set i ⟨r.g,r.c,r.q.set k x⟩).map RF.g = L.map RF.g:=by
    rw [List.map_set]
    apply List.ext_getElem?
    intro j;rw [List.getElem?_set]
    by_cases hij : i = j
    ·subst hij
     rw [if_pos rfl,if_pos (by simpa using hi),List.getElem?_map,hr];rfl
    ·rw [if_neg hij]
  rw [e];exact h3
theorem MatB.keptG {G : Nat -> Prop} (h : MatB tS tF w go L) (hk : Kept G w w') (hg : ¬ G go) (hgs : ∀ r ∈ L,¬ G r.g) (hG : ∀ k,G k -> ∃ t cs,Blk w k t cs /\ NoLimb cs) : MatB tS tF w' go L:=by
 obtain ⟨⟨zs,h1⟩,h2,h3⟩:=h;refine ⟨⟨zs,hk.blk h1 hg⟩,fun r hr=>⟨?_,(h2 r hr).2⟩,h3⟩;obtain ⟨es,fs,q1,q2,q3⟩:=(h2 r hr).1;exact ⟨es,fs,hk.blk q1 (hgs r hr),fun e he=>⟨hk.wd (q2 e he).1 hG,hk.wd (q2 e he).2 hG⟩,q3⟩
end
def Zb7 (L : List RF) (i : Nat) : List Rat:=(L[i]?.map RF.q).getD []
theorem Zgv {L : List RF} {i : Nat} {r : RF} (h : L[i]? = some r) : Zb7 L i = r.q:=by unfold Zb7;rw [h];rfl
theorem Ztt {L : List RF} {R : List (List Rat)} (hl : L.length = R.length) (h : ∀ i,i < R.length -> Zb7 L i = R[i]?.getD []) : L.map RF.q = R:=by
 apply List.ext_getElem?
 intro i;rw [List.getElem?_map]
 by_cases hi : i < R.length
 ·have:=h i hi
  unfold Zb7 at this;rw [List.getElem?_eq_getElem (show i < L.length by omega),List.getElem?_eq_getElem hi] at this ⊢;simp only [Option.map_some,Option.getD_some] at this ⊢;rw [this]
 ·rw [List.getElem?_eq_none (by omega),List.getElem?_eq_none (by omega)];rfl
theorem Zji (L : List RF) (i : Nat) : Zb7 L i = (L.map RF.q)[i]?.getD []:=by unfold Zb7;rw [List.getElem?_map]
theorem Zf5 {R : List (List Rat)} {r col i : Nat} (hi : i < R.length) : (Zbq R r col)[i]?.getD [] = if i <= r then R[i]?.getD [] else Zka (R[r]?.getD []) (R[i]?.getD []) col:=by
 unfold Zbq;rw [List.getElem?_map,List.getElem?_range hi];rfl
theorem rowR_eq {p row q : List Rat} {col : Nat} (hl : q.length = row.length) (h : ∀ t,q[t]?.getD 0 = if col <= t /\ t < row.length then row[t]?.getD 0 - row[col]?.getD 0 / p[col]?.getD 0 * p[t]?.getD 0 else row[t]?.getD 0) : q = Zka p row col:=by
 apply List.ext_getElem?
 intro t;unfold Zka;rw [List.getElem?_map];have:=h t
 by_cases ht : t < row.length
 ·rw [List.getElem?_range ht]
  rw [List.getElem?_eq_getElem (show t < q.length by omega)] at this ⊢;simp only [Option.map_some,Option.getD_some] at this ⊢;rw [this]
  by_cases hc : t < col
  ·rw [if_pos hc,if_neg (by omega)]
  ·rw [if_neg hc,if_pos (by omega)]
 ·rw [List.getElem?_eq_none (by omega),List.getElem?_eq_none (l:=List.range _) (by simpa using ht)];rfl
theorem Zt9 {row q : List Rat} {col k : Nat} {x : Rat} {f : Nat -> Rat} (hl : q.length = row.length) (hk : col <= k) (hkl : k < row.length) (hx : x = f k) (h : ∀ t,q[t]?.getD 0 = if col <= t /\ t < k then f t else row[t]?.getD 0) :
    ∀ t,(q.set k x)[t]?.getD 0 = if col <= t /\ t < k + 1 then f t else row[t]?.getD 0:=by
 intro t;rw [List.getElem?_set]
 by_cases ht : k = t
 ·subst ht
  rw [if_pos rfl,if_pos (by omega),if_pos (by omega),hx];rfl
 ·rw [if_neg ht,h t]
  by_cases h1 : col <= t /\ t < k
  ·rw [if_pos h1,if_pos (by omega)]
  ·rw [if_neg h1,if_neg (by omega)]
section
variable {a b : Rat} {i j k l : Nat}
theorem SmN.mulN (h : SmN i j a) (g : SmN k l b) : SmN (i + k) (j + l) (a * b):=by
 rw [<- Zlm a b];have hd : ((a.den : Int) * (b.den : Nat)) ≠ 0:=Int.ne_of_gt (Zba a b);refine ⟨Nat.lt_of_le_of_lt (Zgg _ _ hd) ?_,Nat.lt_of_le_of_lt (Zf6 _ _ hd) ?_⟩
 ·rw [Int.natAbs_mul];exact Zcl h.1 g.1
 ·rw [Int.natAbs_mul,Int.natAbs_natCast,Int.natAbs_natCast];exact Zcl h.2 g.2
theorem SmN.divN (h : SmN i j a) (g : SmN k l b) (h0 : b ≠ 0) : SmN (i + l) (j + k) (a / b):=by
 rw [<- Zdw a b h0];have hd:=Zew a b h0;refine ⟨Nat.lt_of_le_of_lt (Zgg _ _ hd) ?_,Nat.lt_of_le_of_lt (Zf6 _ _ hd) ?_⟩
 ·rw [Int.natAbs_mul,Int.natAbs_natCast];exact Zcl h.1 g.2
 ·rw [Int.natAbs_mul,Int.natAbs_natCast];exact Zcl h.2 g.1
end
theorem Ztu {t : Array Value} {d : Nat} {u : Value} (h : t[d]? = some u) : t.setIfInBounds d u = t:=by
 apply Array.ext
 ·simp
 ·intro i h1 h2
  rw [Array.getElem_setIfInBounds (by simpa using h1)]
  split
  ·rename_i e
   subst e;rw [Array.getElem?_eq_getElem h2] at h
   injection h with h
   exact h.symm
  ·rfl
section
variable {P : Program} {ops : Array Oper} {Q : Exit -> Act -> World -> Prop} {md : Region.Mode} {L : List Nat} {S : World -> Prop} {f1 f2 d1 d2 F : Nat} {t1 t2 : TypeId} {z1 z2 : Array Value}
theorem Zby {i : Nat} {o : Oper} {K : Act -> World -> Prop} {a : Act} {w : World} (ho : ops[i]? = some o)
    (h : ∀ K' : Act -> World -> Prop,Shut (∀ a w,K a w -> K' a w) -> if Region.wanted o (yielded ops a.tmps) = true then Oper.wp P o a w K' Q else K' (a.put o.dst undef) w) : wpOp P ops Q i K a w:=
 wpOp_step ho (fun K' hK=>h K' hK)
end
def Zah (md : Region.Mode) (ops : Array Oper) (i : Nat) : List Nat:=match ops[i]? with | some o=>(o.after.toList.filter (fun e=>Region.binds md e)).map (·.on) | none=>[]
def Zap (ops : Array Oper) (i : Nat) : Nat:=match ops[i]? with | some o=>o.dst.getD 0 | none=>0
def Zaq (R : List Nat) (l : Array Bool) : Array Bool:=R.foldl (fun l i=>l.setIfInBounds i true) l
def clo (md : Region.Mode) (ops : Array Oper) : List Nat -> List Nat -> List Nat
 | [],c=>c
 | r :: rs,c=>clo md ops rs (if c.contains r then Zah md ops r ++ c else c)
def Za5 : List Nat -> Bool
 | []=>true
 | x :: l=>!l.contains x && Za5 l
def Zay : List Nat -> Act -> (Nat -> Value) -> Act
 | [],a,_=>a
 | d :: ds,a,ν=>Zay ds (a.put (some d) (ν d)) ν
def upd (ν : Nat -> Value) (d : Nat) (v : Value) : Nat -> Value:=fun k=>if k = d then v else ν k
theorem Ztn {a : Act} {d e : Nat} {u v : Value} (h : d ≠ e) : (a.put (some d) u).put (some e) v = (a.put (some e) v).put (some d) u:=by
 simp only [Act.put];rw [Array.setIfInBounds_comm _ _ h]
theorem Zrd {ds : List Nat} {a : Act} {ν : Nat -> Value} {d : Nat} {v : Value} (h : d ∉ ds) : Zay ds (a.put (some d) v) ν = (Zay ds a ν).put (some d) v:=by
 induction ds generalizing a with
 | nil=>rfl
 | cons e ds ih =>
  have h1 : d ≠ e:=fun h'=>h (h' ▸ List.mem_cons_self ..)
  show Zay ds ((a.put (some d) v).put (some e) (ν e)) ν = _;rw [Ztn h1,ih (fun h'=>h (List.mem_cons_of_mem _ h'))]
  rfl
theorem Zj6 {ds : List Nat} {a : Act} {ν : Nat -> Value} {d : Nat} {v : Value} (h : d ∉ ds) : Zay ds a (upd ν d v) = Zay ds a ν:=by
 induction ds generalizing a with
 | nil=>rfl
 | cons e ds ih =>
  have h1 : e ≠ d:=fun h'=>h (h' ▸ List.mem_cons_self ..)
  show Zay ds (a.put (some e) (upd ν d v e)) (upd ν d v) = Zay ds (a.put (some e) (ν e)) ν;rw [ih (fun h'=>h (List.mem_cons_of_mem _ h'))];simp only [upd,if_neg h1]
theorem put_put {a : Act} {d : Nat} {u v : Value} : (a.put (some d) u).put (some d) v = a.put (some d) v:=by
 simp only [Act.put];rw [Array.setIfInBounds_setIfInBounds]
theorem Za3 {x : Nat} {l : List Nat} (h : Za5 (x :: l) = true) : x ∉ l /\ Za5 l = true:=by
 simp only [Za5,Bool.and_eq_true,Bool.not_eq_true'] at h;exact ⟨fun hx=>by rw [List.contains_iff_mem.2 hx] at h;exact absurd h.1 (by simp),h.2⟩
theorem Zhs {ds : List Nat} {a : Act} {ν : Nat -> Value} {d : Nat} {v : Value} (h : d ∈ ds) (hn : Za5 ds = true) : (Zay ds a ν).put (some d) v = Zay ds a (upd ν d v):=by
 induction ds generalizing a with
 | nil=>cases h
 | cons e ds ih =>
  obtain ⟨h1,h2⟩:=Za3 hn;show (Zay ds (a.put (some e) (ν e)) ν).put (some d) v = Zay ds (a.put (some e) (upd ν d v e)) (upd ν d v)
  by_cases hd : d = e
  ·subst hd
   rw [<- Zrd h1,put_put,Zj6 h1];simp only [upd,if_true]
  ·rcases List.mem_cons.1 h with h' | h'
   ·exact absurd h' hd
   ·rw [ih h' h2]
    simp only [upd,if_neg (Ne.symm hd)]
theorem Zo1 {ds : List Nat} {a : Act} : Zay ds a (fun d=>a.tmps.getD d undef) = a:=by
 induction ds with
 | nil=>rfl
 | cons d ds ih =>
  show Zay ds (a.put (some d) (a.tmps.getD d undef)) _ = a
  have : a.put (some d) (a.tmps.getD d undef) = a:=by
   cases a with
   | mk t df =>
    simp only [Act.put]
    congr 1
    rcases Nat.lt_or_ge d t.size with h | h
    ·exact Ztu (by rw [Array.getD_eq_getD_getElem?,Array.getElem?_eq_getElem h];rfl)
    ·exact Array.setIfInBounds_eq_of_size_le h
  rw [this];exact ih
theorem Zbd (R : List Nat) (l : Array Bool) (k : Nat) : (Zaq R l).getD k true = if k ∈ R then true else l.getD k true:=by
 unfold Zaq
 induction R generalizing l with
 | nil=>simp
 | cons r R ih =>
  rw [List.foldl_cons,ih]
  by_cases h1 : k ∈ R
  ·rw [if_pos h1,if_pos (List.mem_cons_of_mem _ h1)]
  ·rw [if_neg h1]
   by_cases h2 : k = r
   ·subst h2
    rw [if_pos (List.mem_cons_self ..)];rw [Array.getD_eq_getD_getElem?,Array.getElem?_setIfInBounds]
    split
    ·split <;> rfl
    ·rename_i h;exact absurd rfl h
   ·rw [if_neg (fun h=>by rcases List.mem_cons.1 h with h | h;exact h2 h;exact h1 h),Go.getD_set_ne true (Ne.symm h2)]
theorem Zen (R : List Nat) (l : Array Bool) : (Zaq R l).size = l.size:=by
 unfold Zaq
 induction R generalizing l with
 | nil=>rfl
 | cons r R ih=>rw [List.foldl_cons,ih];simp
theorem Zpk {l m : Array Bool} (hs : l.size = m.size) (h : ∀ k,l.getD k true = m.getD k true) : l = m:=by
 apply Array.ext hs
 intro i h1 h2;have:=h i;rw [Array.getD_eq_getD_getElem?,Array.getD_eq_getD_getElem?,Array.getElem?_eq_getElem h1,Array.getElem?_eq_getElem h2] at this;exact this
section
variable {P : Program} {ops : Array Oper} {Q : Exit -> Act -> World -> Prop} {md : Region.Mode} {L : List Nat} {S : World -> Prop}
theorem Zon {l : Array Bool} {R : List Nat} (hd : ∀ r ∈ R,l.getD r false = true -> ∀ p ∈ Zah md ops r,l.getD p false = true) :
    ∀ (rs : List Nat) (c : List Nat),(∀ r ∈ rs,r ∈ R) -> (∀ x ∈ c,l.getD x false = true) -> ∀ x ∈ clo md ops rs c,l.getD x false = true
 | [],c,_,hc,x,hx=>hc x hx
 | r :: rs,c,hr,hc,x,hx=>by
  refine Zon hd rs _ (fun y hy=>hr y (List.mem_cons_of_mem _ hy)) (fun y hy=>?_) x hx
  split at hy
  ·rename_i h1
   rcases List.mem_append.1 hy with h2 | h2
   ·exact hd r (hr r (List.mem_cons_self ..)) (hc r (List.contains_iff_mem.1 h1)) y h2
   ·exact hc y h2
  ·exact hc y hy
theorem Zdf {l : Array Bool} {k : Nat} (h : l.getD k false = true) : l.getD k true = true:=by
 rw [Array.getD_eq_getD_getElem?] at h ⊢
 cases hk : l[k]? with
 | none=>rfl
 | some b=>rw [hk] at h;exact h
theorem Zaa {l : Array Bool} {k j : Nat} (h : l.getD k false = true) : (l.setIfInBounds j true).getD k false = true:=by
 by_cases hkj : j = k
 ·subst hkj
  rw [Array.getD_eq_getD_getElem?,Array.getElem?_setIfInBounds_self];rw [Array.getD_eq_getD_getElem?] at h
  split
  ·rfl
  ·rename_i h1;rw [Array.getElem?_eq_none (by omega)] at h;cases h
 ·rw [Go.getD_set_ne false hkj];exact h
theorem Zjg {i : Nat} {l : Array Bool} (h : i ∈ Region.ready md ops l) : l.getD i true = false /\ i < ops.size /\ ∀ p ∈ Zah md ops i,l.getD p false = true:=by
 obtain ⟨h1,o,ho,h2⟩:=mem_ready.1 h;refine ⟨h1,(Array.getElem?_eq_some_iff.1 ho).1,fun p hp=>?_⟩;unfold Zah at hp;rw [ho] at hp;obtain ⟨e,he,rfl⟩:=List.mem_map.1 hp;rw [List.mem_filter] at he;exact h2 e (by simpa using he.1) he.2
theorem Ze9 {i : Nat} {l : Array Bool} (h1 : l.getD i true = false) {o : Oper} (ho : ops[i]? = some o) (h : ∀ p ∈ Zah md ops i,l.getD p false = true) : i ∈ Region.ready md ops l:=by
 refine mem_ready.2 ⟨h1,o,ho,fun e he hb=>h _ ?_⟩;unfold Zah;rw [ho];exact List.mem_map.2 ⟨e,List.mem_filter.2 ⟨by simpa using he,hb⟩,rfl⟩
def left (R : List Nat) (l : Array Bool) : Nat:=(R.filter fun r=>!l.getD r true).length
theorem Zjj {f : Nat -> Nat} : ∀ {R : List Nat},Za5 (R.map f) = true -> Za5 R = true
 | [],_=>rfl
 | r :: R,h=>by
  obtain ⟨h1,h2⟩:=Za3 (x:=f r) (l:=R.map f) h;simp only [Za5,Bool.and_eq_true,Bool.not_eq_true'];refine ⟨?_,Zjj h2⟩
  cases hc : R.contains r with
  | false=>rfl
  | true=>exact absurd (List.mem_map.2 ⟨r,List.contains_iff_mem.1 hc,rfl⟩) h1
theorem Zeh {f : Nat -> Nat} : ∀ {R : List Nat},Za5 (R.map f) = true -> ∀ {r i : Nat},r ∈ R -> i ∈ R -> r ≠ i -> f r ≠ f i
 | [],_,_,_,h,_,_=>by cases h
 | x :: R,h,r,i,hr,hi,hne=>by
  obtain ⟨h1,h2⟩:=Za3 (x:=f x) (l:=R.map f) h
  rcases List.mem_cons.1 hr with hr' | hr'
  ·rcases List.mem_cons.1 hi with hi' | hi'
   ·exact absurd (hr'.trans hi'.symm) hne
   ·exact fun e=>h1 (List.mem_map.2 ⟨i,hi',by rw [<- e,hr']⟩)
  ·rcases List.mem_cons.1 hi with hi' | hi'
   ·exact fun e=>h1 (List.mem_map.2 ⟨r,hr',by rw [e,hi']⟩)
   ·exact Zeh h2 hr' hi' hne
theorem Zrs {R : List Nat} {l : Array Bool} {i : Nat} (hi : i ∉ R) : left R (l.setIfInBounds i true) = left R l:=by
 unfold left
 congr 1
 apply List.filter_congr
 intro r hr;rw [Go.getD_set_ne true (fun e : i = r=>hi (e ▸ hr))]
theorem Zi9 {R : List Nat} {l : Array Bool} {i : Nat} (hn : Za5 R = true) (hi : i ∈ R) (h : l.getD i true = false) : left R (l.setIfInBounds i true) + 1 = left R l:=by
 have hlt : i < l.size:=by
  rcases Nat.lt_or_ge i l.size with h' | h'
  ·exact h'
  ·rw [Array.getD_eq_getD_getElem?,Array.getElem?_eq_none h'] at h;cases h
 have hset : (l.setIfInBounds i true).getD i true = true:=by
  rw [Array.getD_eq_getD_getElem?,Array.getElem?_setIfInBounds_self,if_pos hlt];rfl
 induction R with
 | nil=>cases hi
 | cons r R ih =>
  obtain ⟨n1,n2⟩:=Za3 hn
  by_cases hr : i = r
  ·subst hr
   have:=Zrs (l:=l) n1;unfold left at this ⊢;rw [List.filter_cons_of_neg (by simp [hset]),List.filter_cons_of_pos (by simp [h]),this]
   rfl
  ·have hi2 : i ∈ R:=by
     rcases List.mem_cons.1 hi with h' | h'
     ·exact absurd h' hr
     ·exact h'
   have:=ih n2 hi2;unfold left at this ⊢
   by_cases hb : l.getD r true = true
   ·rw [List.filter_cons_of_neg (by rw [Go.getD_set_ne true hr];simp [hb]),List.filter_cons_of_neg (by simp [hb])];exact this
   ·rw [List.filter_cons_of_pos (by rw [Go.getD_set_ne true hr];simpa using hb),List.filter_cons_of_pos (by simpa using hb),List.length_cons,List.length_cons,this]
theorem Zn0 (R : List (Nat × Nat)) (h : R.all (fun p=>Zap ops p.1 == p.2) = true) : (R.map (·.1)).map (Zap ops) = R.map (·.2):=by
 rw [List.map_map]
 apply List.map_congr_left
 intro p hp;rw [List.all_eq_true] at h
 simpa using h p hp
end
section
variable {P : Program} {ops : Array Oper} {Q : Exit -> Act -> World -> Prop} {md : Region.Mode} {L : List Nat} {S : World -> Prop}
theorem Zhd {i : Nat} {oi : Oper} {v : Value} (hi : ops[i]? = some oi) (hsel : ∀ (j : Nat) (o : Oper) cs b,ops[j]? = some o -> o.op ≠ .select cs b)
    (hQ : ∀ c a w,Q (.panic c) (a.put oi.dst v) w -> Q (.panic c) a w) (hiL : L.contains i = false) :
    ∀ (fuel : Nat) (listed : Array Bool) (a : Act) (w : World),
     (∀ j oj,ops[j]? = some oj -> j ≠ i -> listed.getD j true = false -> (∀ e ∈ oj.after,Region.binds md e = true -> e.on ≠ i) -> oi.apart ops oj = true) ->
     i ∈ Region.ready md ops listed -> YieldsIf P ops (fun _=>True) oi v a -> (Zcj L listed = true -> S w) ->
     Z8 P md ops Q L S fuel (listed.setIfInBounds i true) (a.put oi.dst v) w -> Z8 P md ops Q L S (fuel + 1) listed a w:=by
 have hiL' : i ∉ L:=fun h=>by
  rw [List.contains_iff_mem.2 h] at hiL
  cases hiL
 intro fuel
 induction fuel with
 | zero =>
  intro listed a w _ hr hy hS H;refine ⟨fun h=>(by rw [h] at hr;cases hr),fun j hj=>?_⟩
  by_cases hji : j = i
  ·subst hji;exact hy.wpOp hi trivial ⟨fun h=>hS (by rwa [Zb8 hiL'] at h),H⟩
  ·have:=ready_mono hj hji
   rw [H.1] at this
   cases this
 | succ fuel ih =>
  intro listed a w hfree hr hy hS H;refine ⟨fun h=>(by rw [h] at hr;cases hr),fun j hj=>?_⟩
  by_cases hji : j = i
  ·subst hji;exact hy.wpOp hi trivial ⟨fun h=>hS (by rwa [Zb8 hiL'] at h),H⟩
  ·have h1:=H.2 j (ready_mono hj hji)
   obtain ⟨hjun,oj,hoj,hall⟩:=mem_ready.1 hj
   have hnot : ∀ e ∈ oj.after,Region.binds md e = true -> e.on ≠ i:=fun e he hb heq=>by
    have h1:=hall e he hb;have h0:=(mem_ready.1 hr).1;rw [heq] at h1
    rcases Nat.lt_or_ge i listed.size with h' | h'
    ·simp [h'] at h0 h1;rw [h0] at h1;cases h1
    ·simp [Array.getElem?_eq_none h'] at h1
   have h2:=wpOp_putIf hoj (hfree j oj hoj hji hjun hnot) (fun cs b=>hsel i oi cs b hi) (fun cs b=>hsel j oj cs b hoj) hQ hy h1
   have hfree' : ∀ k ok,ops[k]? = some ok -> k ≠ i -> (listed.setIfInBounds j true).getD k true = false ->
       (∀ e ∈ ok.after,Region.binds md e = true -> e.on ≠ i) -> oi.apart ops ok = true:=fun k ok hk hki hun hno=>by
    refine hfree k ok hk hki ?_ hno
    by_cases hjk : j = k
    ·subst hjk;exact hjun
    ·rw [Go.getD_set_ne true hjk] at hun;exact hun
   refine wpOp_mono (fun a' w' h3=>?_) h2
   have hSj : Zcj L (listed.setIfInBounds j true) = true -> S w':=fun h=>h3.2.1 (by
    rw [Array.setIfInBounds_comm _ _ (Ne.symm hji),Zb8 hiL'];exact h)
   refine ⟨hSj,ih (listed.setIfInBounds j true) a' w' hfree' (ready_mono hr (Ne.symm hji)) h3.1 hSj ?_⟩;rw [Array.setIfInBounds_comm _ _ hji];exact h3.2.2
theorem Zn {i : Nat} {oi : Oper} {v : Value} {fuel : Nat} {listed : Array Bool} {a : Act} {w : World} (hi : ops[i]? = some oi)
    (hs : Region.noSelect ops = true) (hf : Region.free md ops listed i = true) (hr : (Region.ready md ops listed).contains i = true) (hL : L.contains i = false)
    (hy : YieldsIf P ops (fun _=>True) oi v a) (hS : Zcj L listed = true -> S w)
    (h : Z8 P md ops (OnlyNormal Q) L S fuel (listed.setIfInBounds i true) (a.put oi.dst v) w) : Z8 P md ops (OnlyNormal Q) L S (fuel + 1) listed a w:=
 Zhd hi (Region.noSelect_spec hs) (fun _ _ _ h=>(h : False).elim) hL fuel listed a w (Region.free_spec hi hf) (by simpa using hr) hy hS h
end
section
variable {P : Program} {ops : Array Oper} {Q : Exit -> Act -> World -> Prop} {md : Region.Mode} {L : List Nat} {S : World -> Prop}
end
def Zl7 (md : Region.Mode) (ops : Array Oper) (L : List Nat) : List Nat -> Array Bool -> Bool
 | [],_=>true
 | i :: is,l=>Region.free md ops l i && (Region.ready md ops l).contains i && !L.contains i && Zl7 md ops L is (l.setIfInBounds i true)
section
variable {P : Program} {ops : Array Oper} {Q : Exit -> Act -> World -> Prop} {md : Region.Mode} {L : List Nat} {S : World -> Prop}
theorem Zll (hs : Region.noSelect ops = true) {w : World} (hS : S w) : ∀ (is : List Nat) (F : Nat) (listed : Array Bool) (a : Act),Zl7 md ops L is listed = true -> Zfi P ops (fun _=>True) is a (fun a'=>Z8 P md ops (OnlyNormal Q) L S F (Zg7 is listed) a' w) -> Z8 P md ops (OnlyNormal Q) L S (F + is.length) listed a w
 | [],F,l,a,_,h=>h
 | i :: is,F,l,a,hc,h=>by
  obtain ⟨oi,v,ho,hy,h2⟩:=h;simp only [Zl7,Bool.and_eq_true,Bool.not_eq_true'] at hc;exact Zn ho hs hc.1.1.1 hc.1.1.2 hc.1.2 hy (fun _=>hS) (Zll hs hS is F _ _ hc.2 h2)
theorem Zu2 {F : Nat} {listed : Array Bool} {a : Act} {w : World} (k : Nat) (is : List Nat) (hk : is.length = k) (hc : (Region.noSelect ops && Zl7 md ops L is listed) = true) (hS : S w)
    (h : Zfi P ops (fun _=>True) is a (fun a'=>Z8 P md ops (OnlyNormal Q) L S F (Zg7 is listed) a' w)) : Z8 P md ops (OnlyNormal Q) L S (F + k) listed a w:=by
 rw [Bool.and_eq_true] at hc;subst hk;exact Zll hc.1 hS is F listed a hc.2 h
end
def Zal (R : List Nat) (att : Nat -> List Nat) : List Nat:=R.flatMap fun i=>i :: att i
def Zf1 (md : Region.Mode) (ops : Array Oper) (l : Array Bool) (i : Nat) : List Nat -> List Nat -> Bool
 | [],_=>true
 | u :: us,done=>(match ops[u]? with | some o=>o.dst.isSome | none=>false) && (Zah md ops u).contains i && !l.getD u true && (Zah md ops u).all (fun p=>p == i || done.contains p || l.getD p false || (Zah md ops i).contains p) &&
     ((List.range ops.size).all fun j=>j == u || (j == i || done.contains j || l.getD j false || (Zah md ops i).contains j) || (Zah md ops j).contains u || (match ops[u]?,ops[j]? with | some ou,some oj=>ou.apart ops oj | _,_=>true)) && Zf1 md ops l i us (u :: done)
def Zql (md : Region.Mode) (ops : Array Oper) (att : Nat -> List Nat) : List Nat -> Array Bool -> Bool
 | [],_=>true
 | r :: rs,l=>!l.getD r true && (match ops[r]? with | some o=>o.dst.isSome | none=>false) && (Zah md ops r).all (fun p=>l.getD p false) && Zql md ops att rs (Zaq (r :: att r) l)
def Zu1 (md : Region.Mode) (ops : Array Oper) (R F : List Nat) (l : Array Bool) : Bool:=
 (List.range ops.size).all fun k=>F.contains k || l.getD k true || (Zah md ops k).any (fun p=>!F.contains p && !l.getD p false) || (R.all fun r=>(clo md ops F.reverse (Zah md ops k)).contains r)
def Zi3 (md : Region.Mode) (ops : Array Oper) (R : List Nat) (att : Nat -> List Nat) (l : Array Bool) : Bool:=
 Zql md ops att R l && Zu1 md ops R (Zal R att) l && Za5 ((Zal R att).map (Zap ops)) && decide (l.size = ops.size) && R.all (fun i=>Zf1 md ops l i (att i) []) && Region.noSelect ops
section
variable {P : Program} {ops : Array Oper} {Q : Exit -> Act -> World -> Prop} {md : Region.Mode} {L : List Nat} {S : World -> Prop}
def Zos (P : Program) (ops : Array Oper) (Φ : Nat -> Value -> World -> Prop) (w : World) : List Nat -> Act -> Prop
 | [],_=>True
 | u :: us,a=>∃ o v,ops[u]? = some o /\ YieldsIf P ops (fun _=>True) o v a /\ Φ u v w /\ Zos P ops Φ w us (a.put o.dst v)
theorem Zfb {l : Array Bool} {i : Nat} (h : i < l.size) : (l.setIfInBounds i true).getD i false = true:=by
 rw [Array.getD_eq_getD_getElem?,Array.getElem?_setIfInBounds_self,if_pos h];rfl
theorem Za7 {us : List Nat} {l : Array Bool} {k : Nat} (h : l.getD k false = true) : (Zaq us l).getD k false = true:=by
 induction us generalizing l with
 | nil=>exact h
 | cons u us ih=>exact ih (l:=l.setIfInBounds u true) (Zaa h)
theorem Zi0 {us : List Nat} {l : Array Bool} {k : Nat} (hk : k ∈ us) (h : k < l.size) : (Zaq us l).getD k false = true:=by
 induction us generalizing l with
 | nil=>cases hk
 | cons u us ih =>
  rcases List.mem_cons.1 hk with rfl | hk
  ·exact Za7 (us:=us) (Zfb h)
  ·exact ih (l:=l.setIfInBounds u true) hk (by simp;exact h)
theorem Zqb {Φ : Nat -> Value -> World -> Prop} {l0 : Array Bool} {i : Nat} {R : List Nat} {a0 : Act} {w : World} {F : Nat} (hns : Region.noSelect ops = true) (hnd : Za5 (R.map (Zap ops)) = true) (hiR : i ∈ R) :
    ∀ (us done : List Nat) (l : Array Bool) (ν : Nat -> Value),Zf1 md ops l0 i us done = true -> (∀ u ∈ us,u ∈ R) -> (∀ u ∈ us,u ∉ L) -> (∀ u ∈ us,l.getD u true = false) -> l.size = ops.size -> Za5 us = true ->
     (∀ p,l0.getD p false = true -> l.getD p false = true) -> l.getD i false = true -> (∀ p ∈ Zah md ops i,l.getD p false = true) -> (∀ u ∈ done,l.getD u false = true) -> S w ->
     Zos P ops Φ w us (Zay (R.map (Zap ops)) a0 ν) ->
     (∀ ν',(∀ k,(∀ u ∈ us,Zap ops u ≠ k) -> ν' k = ν k) -> (∀ u ∈ us,Φ u (ν' (Zap ops u)) w) -> Z8 P md ops (OnlyNormal Q) L S F (Zaq us l) (Zay (R.map (Zap ops)) a0 ν') w) ->
     Z8 P md ops (OnlyNormal Q) L S (us.length + F) l (Zay (R.map (Zap ops)) a0 ν) w:=by
 intro us
 induction us with
 | nil =>
  intro done l ν _ _ _ _ _ _ _ _ _ _ _ _ h;rw [show ([] : List Nat).length + F = F by simp];exact h ν (fun _ _=>rfl) (fun u hu=>by cases hu)
 | cons u us ih =>
  intro done l ν hat hR hL hun hsz hndu hl0 hi hp hdone hS htr h;simp only [Zf1,Bool.and_eq_true,List.all_eq_true] at hat;obtain ⟨⟨⟨⟨⟨h1,h2⟩,h3⟩,h4⟩,h5⟩,h6⟩:=hat;obtain ⟨o,v,ho,hy,hΦ,htr2⟩:=htr;obtain ⟨n1,n2⟩:=Za3 hndu;have husz : u < ops.size:=(Array.getElem?_eq_some_iff.1 ho).1;have hu0:=hun u (List.mem_cons_self ..)
  have hready : u ∈ Region.ready md ops l:=Ze9 hu0 ho (fun p hp2=>by
   have h7:=h4 p hp2;simp only [Bool.or_eq_true,beq_iff_eq] at h7
   rcases h7 with ((h7 | h7) | h7) | h7
   ·rw [h7];exact hi
   ·exact hdone p (List.contains_iff_mem.1 h7)
   ·exact hl0 p h7
   ·exact hp p (List.contains_iff_mem.1 h7))
  have hdst : o.dst = some (Zap ops u):=by
   rw [ho] at h1;obtain ⟨d,hd⟩:=Option.isSome_iff_exists.1 h1;unfold Zap;rw [ho];simp only [hd,Option.getD_some]
  have hdn : Zap ops u ∈ R.map (Zap ops):=List.mem_map.2 ⟨u,hR u (List.mem_cons_self ..),rfl⟩;rw [List.length_cons,Nat.add_right_comm]
  refine Zhd ho (Region.noSelect_spec hns) (fun _ _ _ h=>(h : False).elim) (by
   cases hc : L.contains u with
   | false=>rfl
   | true=>exact absurd (List.contains_iff_mem.1 hc) (hL u (List.mem_cons_self ..))) _ l _ w (fun j oj hoj hju hjl hnw=>?_) hready hy (fun _=>hS) ?_
  ·have h7:=h5 j (List.mem_range.2 (Array.getElem?_eq_some_iff.1 hoj).1)
   simp only [Bool.or_eq_true,beq_iff_eq] at h7
   rcases h7 with ((h7 | h7) | h7) | h7
   ·exact absurd h7 hju
   ·exfalso
    have h8 : l.getD j false = true:=by
     rcases h7 with ((h7 | h7) | h7) | h7
     ·rw [h7];exact hi
     ·exact hdone j (List.contains_iff_mem.1 h7)
     ·exact hl0 j h7
     ·exact hp j (List.contains_iff_mem.1 h7)
    rw [Zdf h8] at hjl
    cases hjl
   ·exfalso
    have h8:=List.contains_iff_mem.1 h7;unfold Zah at h8;rw [hoj] at h8;obtain ⟨e,he,he2⟩:=List.mem_map.1 h8;rw [List.mem_filter] at he;exact hnw e (by simpa using he.1) he.2 he2
   ·rw [ho,hoj] at h7;exact h7
  ·rw [hdst,Zhs hdn hnd]
   refine ih (u :: done) (l.setIfInBounds u true) (upd ν (Zap ops u) v) h6 (fun x hx=>hR x (List.mem_cons_of_mem _ hx)) (fun x hx=>hL x (List.mem_cons_of_mem _ hx)) (fun x hx=>?_) (by simp;exact hsz) n2 (fun p hp2=>Zaa (hl0 p hp2)) (Zaa hi) (fun p hp2=>Zaa (hp p hp2)) (fun x hx=>?_) hS ?_ (fun ν' k1 k2=>?_)
   ·rw [Go.getD_set_ne true (fun e : u = x=>n1 (e ▸ hx))]
    exact hun x (List.mem_cons_of_mem _ hx)
   ·rcases List.mem_cons.1 hx with rfl | hx
    ·exact Zfb (by omega)
    ·exact Zaa (hdone x hx)
   ·rw [hdst,Zhs hdn hnd] at htr2
    exact htr2
   ·refine h ν' (fun k hk=>?_) (fun x hx=>?_)
    ·rw [k1 k (fun x hx=>hk x (List.mem_cons_of_mem _ hx))]
     simp only [upd,if_neg (Ne.symm (hk u (List.mem_cons_self ..)))]
    ·rcases List.mem_cons.1 hx with rfl | hx
     ·have h9 : ∀ y ∈ us,Zap ops y ≠ Zap ops x:=fun y hy=>Zeh hnd (hR y (List.mem_cons_of_mem _ hy)) (hR x (List.mem_cons_self ..)) (fun e=>n1 (e ▸ hy))
      rw [k1 _ h9];simp only [upd,if_true];exact hΦ
     ·exact k2 x hx
theorem Zja {us : List Nat} {l : Array Bool} {k : Nat} (h : (Zaq us l).getD k false = true) : k ∈ us \/ l.getD k false = true:=by
 induction us generalizing l with
 | nil=>exact .inr h
 | cons u us ih =>
  rcases ih (l:=l.setIfInBounds u true) h with h1 | h1
  ·exact .inl (List.mem_cons_of_mem _ h1)
  ·by_cases hk : u = k
   ·exact .inl (hk ▸ List.mem_cons_self ..)
   ·rw [Go.getD_set_ne false hk] at h1;exact .inr h1
theorem Ze7 {us : List Nat} {l : Array Bool} {k : Nat} (h : (Zaq us l).getD k true = false) : l.getD k true = false:=by
 rw [Zbd] at h
 split at h
 ·cases h
 ·exact h
theorem Zgk {att : Nat -> List Nat} : ∀ (R : List Nat) (l0 : Array Bool),Zql md ops att R l0 = true -> (∀ r ∈ R,l0.getD r true = false /\ ∃ o d,ops[r]? = some o /\ o.dst = some d) /\
      ∀ l : Array Bool,l.size = l0.size -> (∀ k,l0.getD k false = true -> l.getD k false = true) -> (∀ r ∈ R,l.getD r true = true -> ∀ u ∈ att r,l.getD u false = true) -> (∃ r ∈ R,l.getD r true = false) -> ∃ r ∈ R,l.getD r true = false /\ ∀ p ∈ Zah md ops r,l.getD p false = true
 | [],_,_=>⟨fun r hr=>(by cases hr),fun l _ _ _ ⟨r,hr,_⟩=>(by cases hr)⟩
 | r :: R,l0,h=>by
  simp only [Zql,Bool.and_eq_true,Bool.not_eq_true',List.all_eq_true] at h;obtain ⟨⟨⟨h1,h2⟩,h3⟩,h4⟩:=h;obtain ⟨k1,k2⟩:=Zgk R _ h4;refine ⟨fun x hx=>?_,fun l hsz hl hat hu=>?_⟩
  ·rcases List.mem_cons.1 hx with rfl | hx
   ·refine ⟨h1,?_⟩
    cases ho : ops[x]? with
    | none=>rw [ho] at h2;cases h2
    | some o =>
     rw [ho] at h2;obtain ⟨d,hd⟩:=Option.isSome_iff_exists.1 h2;exact ⟨o,d,rfl,hd⟩
   ·obtain ⟨m1,m2⟩:=k1 x hx
    exact ⟨Ze7 m1,m2⟩
  ·by_cases hr : l.getD r true = false
   ·exact ⟨r,List.mem_cons_self ..,hr,fun p hp=>hl p (h3 p hp)⟩
   ·have hr2 : l.getD r true = true:=by simpa using hr
    have hrs : r < l0.size:=by
     rcases Nat.lt_or_ge r l0.size with h' | h'
     ·exact h'
     ·rw [Array.getD_eq_getD_getElem?,Array.getElem?_eq_none h'] at h1;cases h1
    have hrl : r < l.size:=by omega
    have hrf : l.getD r false = true:=by
     rw [Array.getD_eq_getD_getElem?,Array.getElem?_eq_getElem hrl] at hr2 ⊢;exact hr2
    obtain ⟨x,hx,hx2⟩:=k2 l (by rw [Zen];exact hsz) (fun k hk=>by
     rcases Zja hk with h5 | h5
     ·rcases List.mem_cons.1 h5 with rfl | h5
      ·exact hrf
      ·exact hat r (List.mem_cons_self ..) hr2 k h5
     ·exact hl k h5) (fun y hy=>hat y (List.mem_cons_of_mem _ hy)) (by
     obtain ⟨y,hy,hy2⟩:=hu
     rcases List.mem_cons.1 hy with rfl | hy
     ·exact absurd hy2 hr
     ·exact ⟨y,hy,hy2⟩)
    exact ⟨x,List.mem_cons_of_mem _ hx,hx2⟩
theorem Zl9 {R : List Nat} (hn : Za5 R = true) : ∀ (us : List Nat) (l : Array Bool),Za5 us = true -> (∀ u ∈ us,u ∈ R) -> (∀ u ∈ us,l.getD u true = false) -> left R (Zaq us l) + us.length = left R l:=by
 intro us
 induction us with
 | nil=>intro l _ _ _;rfl
 | cons u us ih =>
  intro l h1 h2 h3;obtain ⟨n1,n2⟩:=Za3 h1;have h4:=Zi9 hn (h2 u (List.mem_cons_self ..)) (h3 u (List.mem_cons_self ..))
  have h5:=ih (l.setIfInBounds u true) n2 (fun x hx=>h2 x (List.mem_cons_of_mem _ hx)) (fun x hx=>by
   rw [Go.getD_set_ne true (fun e : u = x=>n1 (e ▸ hx))]
   exact h3 x (List.mem_cons_of_mem _ hx))
  show left R (Zaq us (l.setIfInBounds u true)) + (us.length + 1) = _;omega
theorem Zdd : ∀ {a b : List Nat},Za5 (a ++ b) = true -> Za5 b = true
 | [],_,h=>h
 | _ :: a,_,h=>Zdd (a:=a) (Za3 h).2
theorem Zds : ∀ {a b : List Nat},Za5 (a ++ b) = true -> Za5 a = true
 | [],_,_=>rfl
 | x :: a,b,h=>by
  obtain ⟨h1,h2⟩:=Za3 (x:=x) (l:=a ++ b) h;simp only [Za5,Bool.and_eq_true,Bool.not_eq_true'];refine ⟨?_,Zds h2⟩
  cases hc : a.contains x with
  | false=>rfl
  | true=>exact absurd (List.mem_append_left _ (List.contains_iff_mem.1 hc)) h1
theorem Zh5 : ∀ {a b : List Nat},Za5 (a ++ b) = true -> ∀ x,x ∈ a -> x ∉ b
 | [],_,_,x,hx=>by cases hx
 | y :: a,b,h,x,hx=>by
  obtain ⟨h1,h2⟩:=Za3 (x:=y) (l:=a ++ b) h
  rcases List.mem_cons.1 hx with hx' | hx'
  ·intro hb;exact h1 (List.mem_append_right _ (hx' ▸ hb))
  ·exact Zh5 h2 x hx'
theorem Znz {att : Nat -> List Nat} : ∀ {R : List Nat},Za5 (Zal R att) = true -> ∀ r ∈ R,Za5 (r :: att r) = true /\ ∀ r' ∈ R,r' ≠ r -> ∀ x ∈ r :: att r,x ∉ r' :: att r'
 | [],_,r,hr=>by cases hr
 | y :: R,h,r,hr=>by
  have e : Zal (y :: R) att = (y :: att y) ++ Zal R att:=rfl;rw [e] at h;have h1:=Zds h;have h2:=Zdd h;have h3:=Zh5 h
  have hmem : ∀ z ∈ R,∀ x ∈ z :: att z,x ∈ Zal R att:=fun z hz x hx=>List.mem_flatMap.2 ⟨z,hz,hx⟩
  by_cases hry : r = y
  ·subst hry
   refine ⟨h1,fun r' hr' hne x hx hx2=>?_⟩
   rcases List.mem_cons.1 hr' with h4 | h4
   ·exact hne h4
   ·exact h3 x hx (hmem r' h4 x hx2)
  ·have hrR : r ∈ R:=by
     rcases List.mem_cons.1 hr with h4 | h4
     ·exact absurd h4 hry
     ·exact h4
   obtain ⟨k1,k2⟩:=Znz h2 r hrR;refine ⟨k1,fun r' hr' hne x hx hx2=>?_⟩
   by_cases hr'y : r' = y
   ·subst hr'y
    exact h3 x hx2 (hmem r hrR x hx)
   ·rcases List.mem_cons.1 hr' with h4 | h4
    ·exact hr'y h4
    ·exact k2 r' h4 hne x hx hx2
theorem Zs6 (R : List Nat) (att : Nat -> List Nat) (D : List Nat) (hDR : ∀ i ∈ D,i ∈ R) (Φ : Nat -> Value -> World -> Prop) {l0 : Array Bool} {a0 : Act} {w0 : World} (hok : Zi3 md ops R att l0 = true) (hL : ∀ u ∈ Zal R att,u ∉ L)
    (hst : ∀ i ∈ Zal R att,∀ v w w',Below w.heap.size w w' -> Φ i v w -> Φ i v w') (hS : ∀ w',Below w0.heap.size w0 w' -> S w') {F : Nat}
    (hop : ∀ i ∈ R,∀ (ν : Nat -> Value) (w : World),Below w0.heap.size w0 w -> (∀ j ∈ Zal R att,j ∈ Zah md ops i -> Φ j (ν (Zap ops j)) w) ->
     wpOp P ops (OnlyNormal Q) i (fun a' w'=>∃ v,a' = (Zay ((Zal R att).map (Zap ops)) a0 ν).put (some (Zap ops i)) v /\ Φ i v w' /\ Below w.heap.size w w' /\ Zos P ops Φ w' (att i) a' /\ (i ∈ D -> ∀ j ∈ D,∀ u,Φ j u w -> v ≠ u)) (Zay ((Zal R att).map (Zap ops)) a0 ν) w)
    (hfin : ∀ (ν : Nat -> Value) (w : World),Below w0.heap.size w0 w -> (∀ i ∈ Zal R att,Φ i (ν (Zap ops i)) w) -> (∀ i ∈ D,∀ j ∈ D,i ≠ j -> ν (Zap ops i) ≠ ν (Zap ops j)) -> Z8 P md ops (OnlyNormal Q) L S F (Zaq (Zal R att) l0) (Zay ((Zal R att).map (Zap ops)) a0 ν) w) :
    ∀ (n : Nat) (l : Array Bool) (ν : Nat -> Value) (w : World),n = left (Zal R att) l -> l.size = l0.size -> (∀ k,k ∉ Zal R att -> l.getD k true = l0.getD k true) -> (∀ k,l0.getD k false = true -> l.getD k false = true) ->
     (∀ r ∈ Zal R att,l.getD r false = true -> ∀ p ∈ Zah md ops r,l.getD p false = true) ->
     (∀ r ∈ R,∀ u ∈ att r,(l.getD r true = true -> l.getD u false = true) /\ (l.getD r true = false -> l.getD u true = false)) -> Below w0.heap.size w0 w -> (∀ r ∈ Zal R att,l.getD r true = true -> Φ r (ν (Zap ops r)) w) -> (∀ i ∈ D,∀ j ∈ D,i ≠ j -> l.getD i true = true -> l.getD j true = true -> ν (Zap ops i) ≠ ν (Zap ops j)) ->
     Z8 P md ops (OnlyNormal Q) L S (n + F) l (Zay ((Zal R att).map (Zap ops)) a0 ν) w:=by
 simp only [Zi3,Bool.and_eq_true,decide_eq_true_eq] at hok;obtain ⟨⟨⟨⟨⟨hto,hou⟩,hnd⟩,hsz0⟩,hato⟩,hns⟩:=hok;rw [List.all_eq_true] at hato;obtain ⟨t1,t2⟩:=Zgk R l0 hto;have hndf:=Zjj hnd
 have hmemR : ∀ r ∈ R,r ∈ Zal R att:=fun r hr=>List.mem_flatMap.2 ⟨r,hr,List.mem_cons_self ..⟩
 have hmemU : ∀ r ∈ R,∀ u ∈ att r,u ∈ Zal R att:=fun r hr u hu=>List.mem_flatMap.2 ⟨r,hr,List.mem_cons_of_mem _ hu⟩
 have hattp : ∀ r ∈ R,∀ u ∈ att r,r ∈ Zah md ops u /\ (∃ o,ops[u]? = some o):=fun r hr=>by
  have : ∀ (us done : List Nat),Zf1 md ops l0 r us done = true -> ∀ u ∈ us,r ∈ Zah md ops u /\ (∃ o,ops[u]? = some o):=by
   intro us
   induction us with
   | nil=>intro _ _ u hu;cases hu
   | cons x us ih =>
    intro done h u hu;simp only [Zf1,Bool.and_eq_true] at h
    rcases List.mem_cons.1 hu with rfl | hu
    ·refine ⟨List.contains_iff_mem.1 h.1.1.1.1.2,?_⟩
     cases ho : ops[u]? with
     | none=>have:=h.1.1.1.1.1;rw [ho] at this;cases this
     | some o=>exact ⟨o,rfl⟩
    ·exact ih _ h.2 u hu
  exact this (att r) [] (hato r hr)
 intro n
 induction n using Nat.strongRecOn with
 | _ n ih =>
  intro l ν w hn hsz hK hM hD hA hb hΦ hNE
  have hsize : ∀ r ∈ Zal R att,r < l.size:=fun x hx=>by
   obtain ⟨r,hr,hx2⟩:=List.mem_flatMap.1 hx
   rcases List.mem_cons.1 hx2 with rfl | hx2
   ·obtain ⟨-,o,d,ho,-⟩:=t1 x hr
    have:=(Array.getElem?_eq_some_iff.1 ho).1;omega
   ·obtain ⟨-,o,ho⟩:=hattp r hr x hx2
    have:=(Array.getElem?_eq_some_iff.1 ho).1;omega
  have htf : ∀ k,k < l.size -> l.getD k true = true -> l.getD k false = true:=fun k hk h=>by
   rw [Array.getD_eq_getD_getElem?,Array.getElem?_eq_getElem hk] at h ⊢;exact h
  by_cases hex : ∃ r ∈ R,l.getD r true = false
  ·obtain ⟨r,hr,hr1,hr2⟩:=t2 l hsz hM (fun r hr h u hu=>(hA r hr u hu).1 h) hex
   obtain ⟨-,o,d,ho,-⟩:=t1 r hr;have hready:=Ze9 (md:=md) hr1 ho hr2
   obtain ⟨m,rfl⟩ : ∃ m,n = m + 1:=by
    have:=Zi9 hndf (hmemR r hr) hr1;exact ⟨left (Zal R att) (l.setIfInBounds r true),by omega⟩
   rw [Nat.add_right_comm];refine ⟨fun h0=>(by rw [h0] at hready;cases hready),fun i hi=>?_⟩;obtain ⟨hi1,hi2,hi3⟩:=Zjg hi
   have hiF : i ∈ Zal R att:=by
    apply Classical.byContradiction
    intro hni;unfold Zu1 at hou;rw [List.all_eq_true] at hou;have h1:=hou i (List.mem_range.2 hi2);simp only [Bool.or_eq_true,List.any_eq_true,List.all_eq_true,Bool.and_eq_true,Bool.not_eq_true'] at h1
    rcases h1 with ((h1 | h1) | ⟨p,hp,h2,h3⟩) | h1
    ·exact hni (List.contains_iff_mem.1 h1)
    ·rw [hK i hni,h1] at hi1;cases hi1
    ·have hpR : p ∉ Zal R att:=fun h=>by rw [List.contains_iff_mem.2 h] at h2;cases h2
     have h4:=hi3 p hp;have h5:=Zdf h4;rw [hK p hpR] at h5
     have hps : p < l.size:=by
      rcases Nat.lt_or_ge p l.size with h' | h'
      ·exact h'
      ·rw [Array.getD_eq_getD_getElem?,Array.getElem?_eq_none h'] at h4;cases h4
     rw [Array.getD_eq_getD_getElem?,Array.getElem?_eq_getElem (by omega)] at h5 h3;simp only [Option.getD_some] at h5 h3;rw [h5] at h3;cases h3
    ·have h2:=Zon (md:=md) (ops:=ops) (l:=l) (R:=Zal R att) hD (Zal R att).reverse (Zah md ops i) (fun r hr=>List.mem_reverse.1 hr) hi3
     have h3:=Zdf (h2 r (List.contains_iff_mem.1 (h1 r hr)));rw [hr1] at h3;cases h3
   have hiR : i ∈ R:=by
    obtain ⟨r',hr',hx⟩:=List.mem_flatMap.1 hiF
    rcases List.mem_cons.1 hx with rfl | hx
    ·exact hr'
    ·exfalso
     have h1:=Zdf (hi3 r' (hattp r' hr' i hx).1);have h2:=Zdf ((hA r' hr' i hx).1 h1);rw [hi1] at h2;cases h2
   have hdn : Zap ops i ∈ (Zal R att).map (Zap ops):=List.mem_map.2 ⟨i,hiF,rfl⟩;obtain ⟨own1,own2⟩:=Znz hndf i hiR;obtain ⟨ni,nus⟩:=Za3 own1;refine wpOp_mono (fun a' w' h=>?_) (hop i hiR ν w hb fun j hj hp=>hΦ j hj (Zdf (hi3 j hp)));obtain ⟨v,rfl,hv,hb2,htr,hne⟩:=h;have hb3:=hb.trans (hb2.mono hb.size);refine ⟨fun _=>hS _ hb3,?_⟩;rw [Zhs hdn hnd] at htr ⊢;have hset : (l.setIfInBounds i true).getD i false = true:=Zfb (hsize i hiF)
   have hund : ∀ u ∈ att i,(l.setIfInBounds i true).getD u true = false:=fun u hu=>by
    rw [Go.getD_set_ne true (fun e : i = u=>ni (e ▸ hu))];exact (hA i hiR u hu).2 hi1
   have hlt:=Zi9 hndf hiF hi1;have hlm:=Zl9 hndf (att i) (l.setIfInBounds i true) nus (hmemU i hiR) hund
   have hm : m = (att i).length + left (Zal R att) (Zaq (att i) (l.setIfInBounds i true)):=by omega
   rw [hm,Nat.add_assoc];refine Zqb (R:=Zal R att) hns hnd hiF (att i) [] (l.setIfInBounds i true) _ (hato i hiR) (hmemU i hiR) (fun u hu=>hL u (hmemU i hiR u hu)) hund (by simp;omega) nus (fun p hp=>Zaa (hM p hp)) hset (fun p hp=>Zaa (hi3 p hp)) (fun u hu=>by cases hu) (hS _ hb3) htr (fun ν' k1 k2=>?_)
   have hνi : ν' (Zap ops i) = v:=by
    rw [k1 _ (fun u hu=>Zeh hnd (hmemU i hiR u hu) hiF (fun e=>ni (e ▸ hu)))];simp only [upd,if_true]
   have hνo : ∀ x ∈ Zal R att,x ≠ i -> x ∉ att i -> ν' (Zap ops x) = ν (Zap ops x):=fun x hx h1 h2=>by
    rw [k1 _ (fun u hu=>Zeh hnd (hmemU i hiR u hu) hx (fun e=>h2 (e ▸ hu)))];simp only [upd,if_neg (Zeh hnd hx hiF h1)]
   refine ih _ (by omega) (Zaq (att i) (l.setIfInBounds i true)) ν' w' rfl (by rw [Zen];simp;exact hsz) (fun k hk=>?_) (fun k hk=>Za7 (Zaa (hM k hk))) (fun x hx hxt p hp=>?_) (fun r' hr' u hu=>?_) hb3 (fun x hx hxt=>?_) (fun a ha b hb' hab hat hbt=>?_)
   ·rw [Zbd,if_neg (fun h=>hk (hmemU i hiR k h)),Go.getD_set_ne true (fun e : i = k=>hk (e ▸ hiF))]
    exact hK k hk
   ·rcases Zja hxt with h1 | h1
    ·-- an operation of the train
     have h2 : ∀ (us done : List Nat),Zf1 md ops l0 i us done = true -> (∀ u ∈ done,(Zaq (att i) (l.setIfInBounds i true)).getD u false = true) -> (∀ u ∈ us,u ∈ att i) -> ∀ u ∈ us,∀ p ∈ Zah md ops u,(Zaq (att i) (l.setIfInBounds i true)).getD p false = true:=by
      intro us
      induction us with
      | nil=>intro _ _ _ _ u hu;cases hu
      | cons y us ihu =>
       intro done h hd hall u hu p hp;simp only [Zf1,Bool.and_eq_true,List.all_eq_true] at h
       rcases List.mem_cons.1 hu with rfl | hu
       ·have h7:=h.1.1.2 p hp
        simp only [Bool.or_eq_true,beq_iff_eq] at h7
        rcases h7 with ((h7 | h7) | h7) | h7
        ·rw [h7];exact Za7 hset
        ·exact hd p (List.contains_iff_mem.1 h7)
        ·exact Za7 (Zaa (hM p h7))
        ·exact Za7 (Zaa (hi3 p (List.contains_iff_mem.1 h7)))
       ·refine ihu (y :: done) h.2 (fun z hz=>?_) (fun z hz=>hall z (List.mem_cons_of_mem _ hz)) u hu p hp
        rcases List.mem_cons.1 hz with rfl | hz
        ·exact Zi0 (hall z (List.mem_cons_self ..)) (by simp;exact hsize z (hmemU i hiR z (hall z (List.mem_cons_self ..))))
        ·exact hd z hz
     exact h2 (att i) [] (hato i hiR) (fun u hu=>by cases hu) (fun u hu=>hu) x h1 p hp
    ·by_cases hxi : i = x
     ·subst hxi;exact Za7 (Zaa (hi3 p hp))
     ·rw [Go.getD_set_ne false hxi] at h1
      exact Za7 (Zaa (hD x hx h1 p hp))
   ·by_cases hri : r' = i
    ·subst hri
     refine ⟨fun _=>Zi0 hu (by simp;exact hsize u (hmemU r' hr' u hu)),fun h=>?_⟩;have h1:=Ze7 h;rw [Zdf hset] at h1;cases h1
    ·have hd1:=own2 r' hr' hri
     have hu1 : u ∉ att i:=fun h=>hd1 u (List.mem_cons_of_mem _ h) (List.mem_cons_of_mem _ hu)
     have hu2 : i ≠ u:=fun h=>hd1 i (List.mem_cons_self ..) (h ▸ List.mem_cons_of_mem _ hu)
     have hr1' : r' ∉ att i:=fun h=>hd1 r' (List.mem_cons_of_mem _ h) (List.mem_cons_self ..)
     refine ⟨fun h=>?_,fun h=>?_⟩
     ·rw [Zbd,if_neg hr1',Go.getD_set_ne true (Ne.symm hri)] at h
      exact Za7 (Zaa ((hA r' hr' u hu).1 h))
     ·rw [Zbd,if_neg hr1',Go.getD_set_ne true (Ne.symm hri)] at h
      rw [Zbd,if_neg hu1,Go.getD_set_ne true hu2];exact (hA r' hr' u hu).2 h
   ·by_cases hxi : x = i
    ·subst hxi;rw [hνi];exact hv
    ·by_cases hxa : x ∈ att i
     ·exact k2 x hxa
     ·rw [hνo x hx hxi hxa]
      rw [Zbd,if_neg hxa,Go.getD_set_ne true (Ne.symm hxi)] at hxt;exact hst x hx _ _ _ hb2 (hΦ x hx hxt)
   ·have hDa : ∀ x ∈ D,x ∉ att i:=fun x hx h=>by
      by_cases hxi : x = i
      ·exact ni (hxi ▸ h)
      ·exact own2 x (hDR x hx) hxi x (List.mem_cons_of_mem _ h) (List.mem_cons_self ..)
    have hold : ∀ x ∈ D,x ≠ i -> (Zaq (att i) (l.setIfInBounds i true)).getD x true = true -> ν' (Zap ops x) = ν (Zap ops x) /\ l.getD x true = true:=fun x hx hxi h=>by
     rw [Zbd,if_neg (hDa x hx),Go.getD_set_ne true (Ne.symm hxi)] at h;exact ⟨hνo x (hmemR x (hDR x hx)) hxi (hDa x hx),h⟩
    by_cases hai : a = i
    ·have hbi : b ≠ i:=fun h=>hab (hai.trans h.symm)
     obtain ⟨e1,e2⟩:=hold b hb' hbi hbt;rw [hai,hνi,e1];exact hne (hai ▸ ha) b hb' _ (hΦ b (hmemR b (hDR b hb')) e2)
    ·obtain ⟨e1,e2⟩:=hold a ha hai hat
     by_cases hbi : b = i
     ·rw [hbi,hνi,e1]
      exact fun h=>hne (hbi ▸ hb') a ha _ (hΦ a (hmemR a (hDR a ha)) e2) h.symm
     ·obtain ⟨e3,e4⟩:=hold b hb' hbi hbt
      rw [e1,e3];exact hNE a ha b hb' hab e2 e4
  ·have hall : ∀ x ∈ Zal R att,l.getD x true = true:=fun x hx=>by
     obtain ⟨r,hr,hx2⟩:=List.mem_flatMap.1 hx
     have h1 : l.getD r true = true:=by
      cases h : l.getD r true with
      | true=>rfl
      | false=>exact absurd ⟨r,hr,h⟩ hex
     rcases List.mem_cons.1 hx2 with rfl | hx2
     ·exact h1
     ·exact Zdf ((hA r hr x hx2).1 h1)
   have h0 : left (Zal R att) l = 0:=by
    unfold left;rw [List.length_eq_zero_iff,List.filter_eq_nil_iff];intro r hr;rw [hall r hr];simp
   have : l = Zaq (Zal R att) l0:=by
    refine Zpk (by rw [Zen];exact hsz) fun k=>?_
    rw [Zbd]
    by_cases hk : k ∈ Zal R att
    ·rw [if_pos hk];exact hall k hk
    ·rw [if_neg hk];exact hK k hk
   subst this;rw [hn,h0,Nat.zero_add];exact hfin ν w hb (fun i hi=>hΦ i hi (hall i hi)) (fun i hi j hj hij=>hNE i hi j hj hij (hall i (hmemR i (hDR i hi))) (hall j (hmemR j (hDR j hj))))
theorem Zm7 (DP : List (Nat × Nat)) (RP : List (Nat × Nat)) (att : Nat -> List Nat) (FP : List (Nat × Nat)) (Φ : Nat -> Value -> World -> Prop) (F : Nat) {l0 : Array Bool} {a0 : Act} {w0 : World}
    (hok : (Zi3 md ops (RP.map (·.1)) att l0 && (Zal (RP.map (·.1)) att == FP.map (·.1)) && FP.all (fun p=>Zap ops p.1 == p.2) && RP.all (fun p=>Zap ops p.1 == p.2) && FP.all (fun p=>!L.contains p.1) && DP.all (fun p=>RP.contains p)) = true)
    (hst : ∀ p ∈ FP,∀ v w w',Below w.heap.size w w' -> Φ p.1 v w -> Φ p.1 v w') (hS : ∀ w',Below w0.heap.size w0 w' -> S w')
    (hop : ∀ p ∈ RP,∀ (ν : Nat -> Value) (w : World),Below w0.heap.size w0 w -> (∀ q ∈ FP,(Zah md ops p.1).contains q.1 = true -> Φ q.1 (ν q.2) w) ->
     wpOp P ops (OnlyNormal Q) p.1 (fun a' w'=>∃ v,a' = (Zay (FP.map (·.2)) a0 ν).put (some p.2) v /\ Φ p.1 v w' /\ Below w.heap.size w w' /\ Zos P ops Φ w' (att p.1) a' /\ (p ∈ DP -> ∀ q ∈ DP,∀ u,Φ q.1 u w -> v ≠ u)) (Zay (FP.map (·.2)) a0 ν) w)
    (hfin : ∀ (ν : Nat -> Value) (w : World),Below w0.heap.size w0 w -> (∀ p ∈ FP,Φ p.1 (ν p.2) w) -> (∀ p ∈ DP,∀ q ∈ DP,p ≠ q -> ν p.2 ≠ ν q.2) -> Z8 P md ops (OnlyNormal Q) L S F (Zaq (FP.map (·.1)) l0) (Zay (FP.map (·.2)) a0 ν) w) :
    Z8 P md ops (OnlyNormal Q) L S (FP.length + F) l0 a0 w0:=by
 simp only [Bool.and_eq_true,beq_iff_eq] at hok;obtain ⟨⟨⟨⟨⟨h1,h2⟩,h3⟩,h4⟩,h5⟩,h6⟩:=hok;rw [List.all_eq_true] at h6;have hD:=Zn0 (ops:=ops) FP h3;rw [<- h2] at hD;rw [List.all_eq_true] at h3 h4 h5
 have hmem : ∀ i,i ∈ Zal (RP.map (·.1)) att -> ∃ p ∈ FP,p.1 = i:=fun i hi=>by
  rw [h2] at hi;exact List.mem_map.1 hi
 have hall:=h1;simp only [Zi3,Bool.and_eq_true,decide_eq_true_eq] at h1;obtain ⟨⟨⟨⟨⟨hto,-⟩,hnd⟩,hsz0⟩,hato⟩,-⟩:=h1;obtain ⟨t1,-⟩:=Zgk _ l0 hto
 have hund : ∀ i ∈ Zal (RP.map (·.1)) att,l0.getD i true = false:=fun x hx=>by
  obtain ⟨r,hr,hx2⟩:=List.mem_flatMap.1 hx
  rcases List.mem_cons.1 hx2 with rfl | hx2
  ·exact (t1 x hr).1
  ·rw [List.all_eq_true] at hato
   have : ∀ (us done : List Nat),Zf1 md ops l0 r us done = true -> ∀ u ∈ us,l0.getD u true = false:=by
    intro us
    induction us with
    | nil=>intro _ _ u hu;cases hu
    | cons y us ih =>
     intro done h u hu;simp only [Zf1,Bool.and_eq_true,Bool.not_eq_true'] at h
     rcases List.mem_cons.1 hu with rfl | hu
     ·exact h.1.1.1.2
     ·exact ih _ h.2 u hu
   exact this _ _ (hato r hr) x hx2
 have hlen : left (Zal (RP.map (·.1)) att) l0 = FP.length:=by
  unfold left;rw [List.filter_eq_self.2 (fun r hr=>by rw [hund r hr];rfl),h2,List.length_map]
 have h:=Zs6 (P:=P) (ops:=ops) (Q:=Q) (md:=md) (L:=L) (S:=S) (RP.map (·.1)) att (DP.map (·.1)) (fun i hi=>by
  obtain ⟨p,hp,rfl⟩:=List.mem_map.1 hi
  exact List.mem_map.2 ⟨p,List.contains_iff_mem.1 (h6 p hp),rfl⟩) Φ (F:=F) (a0:=a0) (w0:=w0) hall (fun u hu=>by
  obtain ⟨p,hp,rfl⟩:=hmem u hu;have:=h5 p hp;intro hc;rw [List.contains_iff_mem.2 hc] at this
  cases this) (fun i hi=>by
  obtain ⟨p,hp,rfl⟩:=hmem i hi
  exact hst p hp) hS (fun i hi ν w hb hP=>by
  obtain ⟨p,hp,rfl⟩:=List.mem_map.1 hi
  have:=hop p hp ν w hb (fun q hq hc=>by
   have hq2:=hP q.1 (by rw [h2];exact List.mem_map.2 ⟨q,hq,rfl⟩) (List.contains_iff_mem.1 hc);have e:=h3 q hq;simp only [beq_iff_eq] at e;rw [e] at hq2
   exact hq2)
  have e:=h4 p hp;simp only [beq_iff_eq] at e;rw [hD,e];refine wpOp_mono (fun a' w' h=>?_) this;obtain ⟨v,k1,k2,k3,k4,k5⟩:=h;refine ⟨v,k1,k2,k3,k4,fun hi j hj u hu=>?_⟩;obtain ⟨p',hp',hpe⟩:=List.mem_map.1 hi;obtain ⟨q',hq',rfl⟩:=List.mem_map.1 hj;have e1:=h4 p' (List.contains_iff_mem.1 (h6 p' hp'));simp only [beq_iff_eq] at e1;have : p' = p:=Prod.ext hpe (by rw [<- e1,<- e,hpe])
  exact k5 (this ▸ hp') q' hq' u hu) (fun ν w hb hf hne=>by
  rw [hD,h2]
  exact hfin ν w hb (fun p hp=>by
   have hq2:=hf p.1 (by rw [h2];exact List.mem_map.2 ⟨p,hp,rfl⟩);have e:=h3 p hp;simp only [beq_iff_eq] at e;rw [e] at hq2
   exact hq2) (fun p hp q hq hpq=>by
   have e1:=h4 p (List.contains_iff_mem.1 (h6 p hp));have e2:=h4 q (List.contains_iff_mem.1 (h6 q hq));simp only [beq_iff_eq] at e1 e2;have:=hne p.1 (List.mem_map.2 ⟨p,hp,rfl⟩) q.1 (List.mem_map.2 ⟨q,hq,rfl⟩) (fun h=>hpq (Prod.ext h (by rw [<- e1,<- e2,h])));rw [e1,e2] at this
   exact this)) FP.length l0 (fun d=>a0.tmps.getD d undef) w0 hlen.symm rfl (fun _ _=>rfl) (fun _ h=>h)
  (fun r hr h=>by have h1:=Zdf h;rw [hund r hr] at h1;cases h1)
  (fun r hr u hu=>⟨fun h=>(by rw [hund r (List.mem_flatMap.2 ⟨r,hr,List.mem_cons_self ..⟩)] at h;cases h),fun _=>hund u (List.mem_flatMap.2 ⟨r,hr,List.mem_cons_of_mem _ hu⟩)⟩)
  (Below.refl _ _) (fun r hr h=>by rw [hund r hr] at h;cases h)
  (fun i hi j hj _ h _=>by
   obtain ⟨p,hp,rfl⟩:=List.mem_map.1 hi;rw [hund p.1 (List.mem_flatMap.2 ⟨p.1,List.mem_map.2 ⟨p,List.contains_iff_mem.1 (h6 p hp),rfl⟩,List.mem_cons_self ..⟩)] at h
   cases h)
 rw [Zo1] at h;exact h
theorem Zfk (RP : List (Nat × Nat)) (att : Nat -> List Nat) (FP : List (Nat × Nat)) (Φ : Nat -> Value -> World -> Prop) (F : Nat) {l0 : Array Bool} {a0 : Act} {w0 : World}
    (hok : (Zi3 md ops (RP.map (·.1)) att l0 && (Zal (RP.map (·.1)) att == FP.map (·.1)) && FP.all (fun p=>Zap ops p.1 == p.2) && RP.all (fun p=>Zap ops p.1 == p.2) && FP.all (fun p=>!L.contains p.1)) = true)
    (hst : ∀ p ∈ FP,∀ v w w',Below w.heap.size w w' -> Φ p.1 v w -> Φ p.1 v w') (hS : ∀ w',Below w0.heap.size w0 w' -> S w')
    (hop : ∀ p ∈ RP,∀ (ν : Nat -> Value) (w : World),Below w0.heap.size w0 w -> (∀ q ∈ FP,(Zah md ops p.1).contains q.1 = true -> Φ q.1 (ν q.2) w) ->
     wpOp P ops (OnlyNormal Q) p.1 (fun a' w'=>∃ v,a' = (Zay (FP.map (·.2)) a0 ν).put (some p.2) v /\ Φ p.1 v w' /\ Below w.heap.size w w' /\ Zos P ops Φ w' (att p.1) a') (Zay (FP.map (·.2)) a0 ν) w)
    (hfin : ∀ (ν : Nat -> Value) (w : World),Below w0.heap.size w0 w -> (∀ p ∈ FP,Φ p.1 (ν p.2) w) -> Z8 P md ops (OnlyNormal Q) L S F (Zaq (FP.map (·.1)) l0) (Zay (FP.map (·.2)) a0 ν) w) :
    Z8 P md ops (OnlyNormal Q) L S (FP.length + F) l0 a0 w0:=
 Zm7 [] RP att FP Φ F (by rw [hok];rfl) hst hS (fun p hp ν w hb hP=>wpOp_mono (fun a' w' h=>by
  obtain ⟨v,k1,k2,k3,k4⟩:=h
  exact ⟨v,k1,k2,k3,k4,fun h=>by cases h⟩) (hop p hp ν w hb hP)) (fun ν w hb hf _=>hfin ν w hb hf)
end
def Zb6 (B0 : Nat) (q : Rat) (ca mv x0 x1 al as_ : Nat) (i : Nat) (v : Value) (w : World) : Prop:=
 if i = ca \/ i = mv then ∃ na A n c nb B m d,v = .tuple #[.agg #[.bool na,.slice A n c,.bool nb,.slice B m d],.int .i64 0] /\ Fr w na A n c nb B m d q
 else if i = x0 then ∃ na A n c nb B m d,v = .agg #[.bool na,.slice A n c,.bool nb,.slice B m d] /\ Fr w na A n c nb B m d q
 else if i = x1 \/ i = as_ then v = .int .i64 0
 else if i = al then ∃ g,v = .pointer (some ⟨g,0,none⟩) /\ B0 <= g /\ Blk w g 29 #[.bool false,.slice none 0 0,.bool false,.slice none 0 0]
 else True
theorem Zhw {B0 : Nat} {q : Rat} {ca mv x0 x1 al as_ i : Nat} {v : Value} {w w' : World} (hb : Below w.heap.size w w') (h : Zb6 B0 q ca mv x0 x1 al as_ i v w) : Zb6 B0 q ca mv x0 x1 al as_ i v w':=by
 unfold Zb6 at h ⊢
 split at h
 ·rename_i h1;rw [if_pos h1]
  obtain ⟨na,A,n,c,nb,B,m,d,e,hf⟩:=h;exact ⟨na,A,n,c,nb,B,m,d,e,hf.below hb⟩
 ·rename_i h1;rw [if_neg h1]
  split at h
  ·rename_i h2;rw [if_pos h2]
   obtain ⟨na,A,n,c,nb,B,m,d,e,hf⟩:=h;exact ⟨na,A,n,c,nb,B,m,d,e,hf.below hb⟩
  ·rename_i h2;rw [if_neg h2]
   split at h
   ·rename_i h3;rw [if_pos h3];exact h
   ·rename_i h3;rw [if_neg h3]
    split at h
    ·rename_i h4;rw [if_pos h4]
     obtain ⟨g,e,h5,h6⟩:=h;exact ⟨g,e,h5,Zc hb h6⟩
    ·rename_i h4;rw [if_neg h4];trivial
theorem Fr.zero_iff {w : World} {na : Bool} {A : Option Addr} {n c : Nat} {nb : Bool} {B : Option Addr} {m d : Nat} {r : Rat} (h : Fr w na A n c nb B m d r) : n = 0 ↔ r = 0:=by
 have h1:=h.1.lim.len;have h2:=length_digits_pos (v:=r.num.natAbs)
 constructor
 ·intro hn
  have : r.num = 0:=by omega
  exact Rat.num_eq_zero.1 this
 ·rintro rfl
  have : (0 : Rat).num.natAbs = 0:=rfl;omega
end Go.Proofs.YtpehacgjclkhmaaGreat
