/- Rows of fractions in a block of the call's own, whose -/
import Derived.Test.YtkcbhbddgmkoiaaGreatZc34
import Derived.Test.YtkcbhbddgmkoiaaGreatZc28
set_option linter.unusedSimpArgs false
set_option linter.unusedVariables false
namespace Go.Proofs.YtkcbhbddgmkoiaaGreat
open Go.RowKit
theorem Znc {es : List FE} {i : Nat} (e : FE) (h : i < es.length) : ((((Zn es).set (i * 4) (.bool e.na)).set (i * 4 + 1) (.slice e.A e.n e.c)).set (i * 4 + 2) (.bool e.nb)).set (i * 4 + 3) (.slice e.B e.m e.d) = Zn (es.set i e):=by
 induction es generalizing i with
 | nil=>simp at h
 | cons a l ih =>
  cases i with
  | zero=>rfl
  | succ i =>
   have:=ih (i:=i) (by simpa using h);rw [show (i + 1) * 4 = i * 4 + 1 + 1 + 1 + 1 by omega];simp only [Zn,List.set_cons_succ,this]
theorem Zhg {es : List FE} {i : Nat} (e : FE) (h : i < es.length) : ((((Z3 es).setIfInBounds (i * 4) (.bool e.na)).setIfInBounds (i * 4 + 1) (.slice e.A e.n e.c)).setIfInBounds (i * 4 + 2) (.bool e.nb)).setIfInBounds (i * 4 + 3) (.slice e.B e.m e.d) = Z3 (es.set i e):=by
 unfold Z3;rw [<- Znc e h];simp
theorem Zfy {cs : Array Value} (h : NoLimb cs) (i : Nat) {v : Value} (hv : ∀ x,v ≠ limb x) : NoLimb (cs.setIfInBounds i v):=fun j x=>by
 rw [Array.getElem?_setIfInBounds]
 split
 ·split
  ·simpa using hv x
  ·simp
 ·exact h j x
def Zhr (w : World) (g i : Nat) (na : Bool) (A : Option Addr) (n c : Nat) (nb : Bool) (B : Option Addr) (m d : Nat) : World:=
 (((w.setCell ⟨g,i * 4,none⟩ (.bool na)).setCell ⟨g,i * 4 + 1,none⟩ (.slice A n c)).setCell ⟨g,i * 4 + 2,none⟩ (.bool nb)).setCell ⟨g,i * 4 + 3,none⟩ (.slice B m d)
section
variable {w : World} {g i : Nat} {na : Bool} {A : Option Addr} {n c : Nat} {nb : Bool} {B : Option Addr} {m d : Nat}
theorem Zlv {A' : Option Addr} {n' c' : Nat} {l : List Nat} {t : TypeId} {cs : Array Value} (h : Lim w A' n' c' l) (hb : Blk w g t cs) (hcs : NoLimb cs) : Lim (Zhr w g i na A n c nb B m d) A' n' c' l:=by
 have h1:=hb.set_ (i * 4) (.bool na);have l1:=Zfy hcs (i * 4) (v:=.bool na) (fun x=>by simp);have h2:=h1.set_ (i * 4 + 1) (.slice A n c);have l2:=Zfy l1 (i * 4 + 1) (v:=.slice A n c) (fun x=>by simp);have h3:=h2.set_ (i * 4 + 2) (.bool nb);have l3:=Zfy l2 (i * 4 + 2) (v:=.bool nb) (fun x=>by simp);exact (((h.set_box hb hcs _ _).set_box h1 l1 _ _).set_box h2 l2 _ _).set_box h3 l3 _ _
theorem Zgl {na' : Bool} {A' : Option Addr} {n' c' : Nat} {nb' : Bool} {B' : Option Addr} {m' d' : Nat} {r : Rat} {t : TypeId} {cs : Array Value} (h : Fr w na' A' n' c' nb' B' m' d' r) (hb : Blk w g t cs) (hcs : NoLimb cs) : Fr (Zhr w g i na A n c nb B m d) na' A' n' c' nb' B' m' d' r:=
 ⟨⟨h.1.1,h.1.2.1,Zlv h.1.2.2 hb hcs⟩,⟨h.2.1,h.2.2.1,Zlv h.2.2.2 hb hcs⟩⟩
theorem Zmj {g' : Nat} {t : TypeId} {cs : Array Value} (h : Blk w g' t cs) (hg : g' ≠ g) : Blk (Zhr w g i na A n c nb B m d) g' t cs:=(((h.far hg _).far hg _).far hg _).far hg _
theorem Zj0 {G : Nat -> Prop} {w0 : World} (h : Kept G w0 w) (hg : G g \/ w0.heap.size <= g) : Kept G w0 (Zhr w g i na A n c nb B m d):=
 (((h.set_ (p:=⟨g,i * 4,none⟩) hg _).set_ (p:=⟨g,i * 4 + 1,none⟩) hg _).set_ (p:=⟨g,i * 4 + 2,none⟩) hg _).set_ (p:=⟨g,i * 4 + 3,none⟩) hg _
end
def FRaw (t : TypeId) (w : World) (g n : Nat) : Prop:=∃ es : List FE,Blk w g t (Z3 es) /\ n <= es.length
def FOwn (t : TypeId) (w : World) (g : Nat) (qs : List Rat) : Prop:=∃ es zs : List FE,Blk w g t (Z3 (es ++ zs)) /\ (∀ e ∈ es,e.in_ w) /\ es.map FE.q = qs
section
variable {t : TypeId} {w w' : World} {g : Nat} {qs : List Rat}
theorem FRaw.lt {n : Nat} (h : FRaw t w g n) : g < w.heap.size:=by obtain ⟨es,h1,h2⟩:=h;exact h1.lt
theorem FRaw.box {n : Nat} (h : FRaw t w g n) : ∃ t cs,Blk w g t cs /\ NoLimb cs:=by obtain ⟨es,h1,h2⟩:=h;exact ⟨t,_,h1,Zbe es⟩
theorem FRaw.cells {n i : Nat} (h : FRaw t w g n) (hi : i < n) : ∃ na A k c nb B m d,w.cell? ⟨g,i * 4,none⟩ = some (.bool na) /\ w.cell? ⟨g,i * 4 + 1,none⟩ = some (.slice A k c) /\ w.cell? ⟨g,i * 4 + 2,none⟩ = some (.bool nb) /\ w.cell? ⟨g,i * 4 + 3,none⟩ = some (.slice B m d):=by
 obtain ⟨es,h1,hn⟩:=h;have hc:=Zcv (List.getElem?_eq_getElem (show i < es.length by omega));exact ⟨_,_,_,_,_,_,_,_,by rw [h1.cell];exact hc.1,by rw [h1.cell];exact hc.2.1,by rw [h1.cell];exact hc.2.2.1,by rw [h1.cell];exact hc.2.2.2⟩
theorem FRaw.frozen {n : Nat} (h : FRaw t w g n) (i : Nat) : w.frozen? ⟨g,i,none⟩ = false:=by obtain ⟨es,h1,-⟩:=h;exact h1.frozen i
theorem FOwn.raw (h : FOwn t w g qs) : FRaw t w g qs.length:=by obtain ⟨es,zs,h1,h2,rfl⟩:=h;exact ⟨es ++ zs,h1,by simp⟩
theorem FOwn.below (h : FOwn t w g qs) (hb : Below w.heap.size w w') : FOwn t w' g qs:=by
 obtain ⟨es,zs,h1,h2,h3⟩:=h;exact ⟨es,zs,Zc hb h1,fun e he=>(h2 e he).below hb,h3⟩
theorem FOwn.lt (h : FOwn t w g qs) : g < w.heap.size:=h.raw.lt
theorem FOwn.box (h : FOwn t w g qs) : ∃ t cs,Blk w g t cs /\ NoLimb cs:=h.raw.box
theorem FOwn.frozen (h : FOwn t w g qs) (i : Nat) : w.frozen? ⟨g,i,none⟩ = false:=h.raw.frozen i
theorem FOwn.at_ (h : FOwn t w g qs) {i : Nat} (hi : i < qs.length) : ∃ na A k c nb B m d,w.cell? ⟨g,i * 4,none⟩ = some (.bool na) /\ w.cell? ⟨g,i * 4 + 1,none⟩ = some (.slice A k c) /\ w.cell? ⟨g,i * 4 + 2,none⟩ = some (.bool nb) /\ w.cell? ⟨g,i * 4 + 3,none⟩ = some (.slice B m d) /\ Fr w na A k c nb B m d (qs[i]?.getD 0):=by
 obtain ⟨es,zs,h1,h2,rfl⟩:=h
 have hl : i < es.length:=by simpa using hi
 have he:=List.getElem?_eq_getElem hl;have hc:=Zcv (es:=es ++ zs) (i:=i) (e:=es[i]) (by rw [List.getElem?_append_left hl];exact he);refine ⟨_,_,_,_,_,_,_,_,by rw [h1.cell];exact hc.1,by rw [h1.cell];exact hc.2.1,by rw [h1.cell];exact hc.2.2.1,by rw [h1.cell];exact hc.2.2.2,?_⟩;rw [List.getElem?_map,he];exact h2 _ (List.getElem_mem hl)
theorem FOwn.set_ (h : FOwn t w g qs) {i : Nat} (hi : i < qs.length) {na : Bool} {A : Option Addr} {k c : Nat} {nb : Bool} {B : Option Addr} {m d : Nat} {r : Rat} (hr : Fr w na A k c nb B m d r) : FOwn t (Zhr w g i na A k c nb B m d) g (qs.set i r):=by
 obtain ⟨es,zs,h1,h2,rfl⟩:=h
 have hl : i < es.length:=by simpa using hi
 have h3:=(((h1.set_ (i * 4) (.bool na)).set_ (i * 4 + 1) (.slice A k c)).set_ (i * 4 + 2) (.bool nb)).set_ (i * 4 + 3) (.slice B m d);have hs:=Zhg (es:=es ++ zs) (i:=i) ⟨na,A,k,c,nb,B,m,d,r⟩ (by rw [List.length_append];omega);dsimp only at hs;rw [hs,List.set_append_left _ _ hl] at h3;refine ⟨_,zs,h3,fun e he=>?_,by rw [List.map_set]⟩
 rcases List.mem_or_eq_of_mem_set he with he | rfl
 ·exact Zgl (h2 e he) h1 (Zbe _)
 ·exact Zgl hr h1 (Zbe _)
theorem FOwn.other {g' i : Nat} {na : Bool} {A : Option Addr} {k c : Nat} {nb : Bool} {B : Option Addr} {m d : Nat} (h : FOwn t w g qs) (hne : g ≠ g') (hb : ∃ t cs,Blk w g' t cs /\ NoLimb cs) : FOwn t (Zhr w g' i na A k c nb B m d) g qs:=by
 obtain ⟨es,zs,h1,h2,h3⟩:=h;obtain ⟨t',cs,hb,hcs⟩:=hb;exact ⟨es,zs,Zmj h1 hne,fun e he=>Zgl (h2 e he) hb hcs,h3⟩
theorem OwnF.fown {base : Nat} {v : Value} (h : OwnF t w base v qs) : (v = .slice none 0 0 /\ qs = []) \/ ∃ g c,v = .slice (some ⟨g,0,none⟩) qs.length c /\ base <= g /\ qs.length <= c /\ c <= maxLen /\ FOwn t w g qs:=by
 obtain ⟨es,h1,h2,rfl⟩:=h
 rcases h1 with ⟨rfl,rfl⟩ | ⟨g,sp,rfl,h4,h5,h6⟩
 ·exact .inl ⟨rfl,rfl⟩
 ·exact .inr ⟨g,_,by rw [List.length_map],h4,by rw [List.length_map];omega,h5,es,List.replicate sp Zag,h6,h2,rfl⟩
end
structure RF where
 g : Nat
 c : Nat
 q : List Rat
def RF.rs (r : RF) : RS:=⟨some ⟨r.g,0,none⟩,r.q.length,r.c⟩
def MatB (tS tF : TypeId) (w : World) (go : Nat) (L : List RF) : Prop:=
 (∃ zs,Blk w go tS (Zbi (L.map RF.rs ++ zs))) /\ (∀ r ∈ L,FOwn tF w r.g r.q /\ r.q.length <= r.c /\ r.c <= maxLen) /\ (go :: L.map RF.g).Nodup
section
variable {tS tF : TypeId} {w w' : World} {go : Nat} {L : List RF}
theorem MatB.below (h : MatB tS tF w go L) (hb : Below w.heap.size w w') : MatB tS tF w' go L:=by
 obtain ⟨⟨zs,h1⟩,h2,h3⟩:=h;exact ⟨⟨zs,Zc hb h1⟩,fun r hr=>⟨(h2 r hr).1.below hb,(h2 r hr).2⟩,h3⟩
theorem MatB.cell (h : MatB tS tF w go L) {i : Nat} {r : RF} (hr : L[i]? = some r) : w.cell? ⟨go,i,none⟩ = some (.slice (some ⟨r.g,0,none⟩) r.q.length r.c) /\ w.frozen? ⟨go,i,none⟩ = false:=by
 obtain ⟨⟨zs,h1⟩,-,-⟩:=h;refine ⟨?_,h1.frozen i⟩;rw [h1.cell];refine Zhf (e:=r.rs) ?_;have hi:=(List.getElem?_eq_some_iff.1 hr).1;rw [List.getElem?_append_left (by simpa using hi),List.getElem?_map,hr];rfl
theorem MatB.row (h : MatB tS tF w go L) {i : Nat} {r : RF} (hr : L[i]? = some r) : FOwn tF w r.g r.q /\ r.q.length <= r.c /\ r.c <= maxLen:=h.2.1 r (List.mem_of_getElem? hr)
theorem MatB.ne (h : MatB tS tF w go L) {i : Nat} {r : RF} (hr : L[i]? = some r) : go ≠ r.g:=fun e=>by
 have:=(List.nodup_cons.1 h.2.2).1;exact this (List.mem_map.2 ⟨r,List.mem_of_getElem? hr,e.symm⟩)
theorem MatB.ne2 (h : MatB tS tF w go L) {i j : Nat} {r s : RF} (hr : L[i]? = some r) (hs : L[j]? = some s) (hij : i ≠ j) : r.g ≠ s.g:=fun e=>by
 have hn:=(List.nodup_cons.1 h.2.2).2
 have h1 : (L.map RF.g)[i]? = some r.g:=by rw [List.getElem?_map,hr];rfl
 have h2 : (L.map RF.g)[j]? = some r.g:=by rw [List.getElem?_map,hs,e];rfl
 exact hij ((List.getElem?_inj (by have:=(List.getElem?_eq_some_iff.1 h1).1;exact this) hn).1 (h1.trans h2.symm))
theorem MatB.boxes (h : MatB tS tF w go L) : ∀ k,(k = go \/ k ∈ L.map RF.g) -> ∃ t cs,Blk w k t cs /\ NoLimb cs:=by
 intro k hk;obtain ⟨⟨zs,h1⟩,h2,-⟩:=h
 rcases hk with rfl | hk
 ·exact ⟨tS,_,h1,Zes _⟩
 ·obtain ⟨r,hr,rfl⟩:=List.mem_map.1 hk
  exact (h2 r hr).1.box
theorem MatB.set_ (h : MatB tS tF w go L) {i : Nat} {r : RF} (hr : L[i]? = some r) {k : Nat} (hk : k < r.q.length) {na : Bool} {A : Option Addr} {n c : Nat} {nb : Bool} {B : Option Addr} {m d : Nat} {x : Rat} (hf : Fr w na A n c nb B m d x) :
    MatB tS tF (Zhr w r.g k na A n c nb B m d) go (L.set i ⟨r.g,r.c,r.q.set k x⟩):=by
 have hne:=h.ne hr
 have hne2:=fun {j : Nat} {s : RF} (hs : L[j]? = some s) (hij : j ≠ i)=>h.ne2 hs hr hij
 have hrow:=h.row hr;have hi:=(List.getElem?_eq_some_iff.1 hr).1;obtain ⟨⟨zs,h1⟩,h2,h3⟩:=h;refine ⟨⟨zs,?_⟩,fun s hs=>?_,?_⟩
 ·have e : (L.set i ⟨r.g,r.c,r.q.set k x⟩).map RF.rs = L.map RF.rs:=by
    rw [List.map_set]
    apply List.ext_getElem?
    intro j;rw [List.getElem?_set]
    by_cases hij : i = j
    ·subst hij
     rw [if_pos rfl,if_pos (by simpa using hi),List.getElem?_map,hr]
     simp [RF.rs]
    ·rw [if_neg hij]
  rw [e];exact Zmj h1 hne
 ·obtain ⟨j,hj,hjs⟩:=List.getElem_of_mem hs
  have hs2 : (L.set i ⟨r.g,r.c,r.q.set k x⟩)[j]? = some s:=by rw [List.getElem?_eq_getElem hj,hjs]
  rw [List.getElem?_set] at hs2
  by_cases hij : i = j
  ·subst hij
   rw [if_pos rfl,if_pos hi] at hs2
   cases hs2
   exact ⟨hrow.1.set_ hk hf,by simpa using hrow.2.1,hrow.2.2⟩
  ·rw [if_neg hij] at hs2
   have:=h2 s (List.mem_of_getElem? hs2);exact ⟨this.1.other (hne2 hs2 (Ne.symm hij)) hrow.1.box,this.2⟩
 ·have e : (L.set i ⟨r.g,r.c,r.q.set k x⟩).map RF.g = L.map RF.g:=by
    rw [List.map_set]
    apply List.ext_getElem?
    intro j;rw [List.getElem?_set]
    by_cases hij : i = j
    ·subst hij
     rw [if_pos rfl,if_pos (by simpa using hi),List.getElem?_map,hr];rfl
    ·rw [if_neg hij]
  rw [e];exact h3
theorem MatB.keptG {G : Nat -> Prop} (h : MatB tS tF w go L) (hk : Kept G w w') (hg : ¬ G go) (hgs : ∀ r ∈ L,¬ G r.g) (hG : ∀ k,G k -> ∃ t cs,Blk w k t cs /\ NoLimb cs) : MatB tS tF w' go L:=by
 obtain ⟨⟨zs,h1⟩,h2,h3⟩:=h;refine ⟨⟨zs,hk.blk h1 hg⟩,fun r hr=>⟨?_,(h2 r hr).2⟩,h3⟩;obtain ⟨es,fs,q1,q2,q3⟩:=(h2 r hr).1;exact ⟨es,fs,hk.blk q1 (hgs r hr),fun e he=>⟨hk.wd (q2 e he).1 hG,hk.wd (q2 e he).2 hG⟩,q3⟩
end
def Zbs (L : List RF) (i : Nat) : List Rat:=(L[i]?.map RF.q).getD []
theorem Zgd {L : List RF} {i : Nat} {r : RF} (h : L[i]? = some r) : Zbs L i = r.q:=by unfold Zbs;rw [h];rfl
theorem Zqr {L : List RF} {R : List (List Rat)} (hl : L.length = R.length) (h : ∀ i,i < R.length -> Zbs L i = R[i]?.getD []) : L.map RF.q = R:=by
 apply List.ext_getElem?
 intro i;rw [List.getElem?_map]
 by_cases hi : i < R.length
 ·have:=h i hi
  unfold Zbs at this;rw [List.getElem?_eq_getElem (show i < L.length by omega),List.getElem?_eq_getElem hi] at this ⊢;simp only [Option.map_some,Option.getD_some] at this ⊢;rw [this]
 ·rw [List.getElem?_eq_none (by omega),List.getElem?_eq_none (by omega)];rfl
theorem Ziq (L : List RF) (i : Nat) : Zbs L i = (L.map RF.q)[i]?.getD []:=by unfold Zbs;rw [List.getElem?_map]
theorem Zfr {R : List (List Rat)} {r col i : Nat} (hi : i < R.length) : (Zbh R r col)[i]?.getD [] = if i <= r then R[i]?.getD [] else Zje (R[r]?.getD []) (R[i]?.getD []) col:=by
 unfold Zbh;rw [List.getElem?_map,List.getElem?_range hi];rfl
theorem rowR_eq {p row q : List Rat} {col : Nat} (hl : q.length = row.length) (h : ∀ t,q[t]?.getD 0 = if col <= t /\ t < row.length then row[t]?.getD 0 - row[col]?.getD 0 / p[col]?.getD 0 * p[t]?.getD 0 else row[t]?.getD 0) : q = Zje p row col:=by
 apply List.ext_getElem?
 intro t;unfold Zje;rw [List.getElem?_map];have:=h t
 by_cases ht : t < row.length
 ·rw [List.getElem?_range ht]
  rw [List.getElem?_eq_getElem (show t < q.length by omega)] at this ⊢;simp only [Option.map_some,Option.getD_some] at this ⊢;rw [this]
  by_cases hc : t < col
  ·rw [if_pos hc,if_neg (by omega)]
  ·rw [if_neg hc,if_pos (by omega)]
 ·rw [List.getElem?_eq_none (by omega),List.getElem?_eq_none (l:=List.range _) (by simpa using ht)];rfl
theorem Zq4 {row q : List Rat} {col k : Nat} {x : Rat} {f : Nat -> Rat} (hl : q.length = row.length) (hk : col <= k) (hkl : k < row.length) (hx : x = f k) (h : ∀ t,q[t]?.getD 0 = if col <= t /\ t < k then f t else row[t]?.getD 0) :
    ∀ t,(q.set k x)[t]?.getD 0 = if col <= t /\ t < k + 1 then f t else row[t]?.getD 0:=by
 intro t;rw [List.getElem?_set]
 by_cases ht : k = t
 ·subst ht
  rw [if_pos rfl,if_pos (by omega),if_pos (by omega),hx];rfl
 ·rw [if_neg ht,h t]
  by_cases h1 : col <= t /\ t < k
  ·rw [if_pos h1,if_pos (by omega)]
  ·rw [if_neg h1,if_neg (by omega)]
section
variable {a b : Rat} {i j k l : Nat}
theorem SmN.mulN (h : SmN i j a) (g : SmN k l b) : SmN (i + k) (j + l) (a * b):=by
 rw [<- Zkd a b];have hd : ((a.den : Int) * (b.den : Nat)) ≠ 0:=Int.ne_of_gt (Zbr a b);refine ⟨Nat.lt_of_le_of_lt (Zqu _ _ hd) ?_,Nat.lt_of_le_of_lt (Zp2 _ _ hd) ?_⟩
 ·rw [Int.natAbs_mul];exact Zdp h.1 g.1
 ·rw [Int.natAbs_mul,Int.natAbs_natCast,Int.natAbs_natCast];exact Zdp h.2 g.2
theorem SmN.divN (h : SmN i j a) (g : SmN k l b) (h0 : b ≠ 0) : SmN (i + l) (j + k) (a / b):=by
 rw [<- Zep a b h0];have hd:=Zf5 a b h0;refine ⟨Nat.lt_of_le_of_lt (Zqu _ _ hd) ?_,Nat.lt_of_le_of_lt (Zp2 _ _ hd) ?_⟩
 ·rw [Int.natAbs_mul,Int.natAbs_natCast];exact Zdp h.1 g.2
 ·rw [Int.natAbs_mul,Int.natAbs_natCast];exact Zdp h.2 g.1
end
theorem pw_pow (k n : Nat) : pw k ^ n = pw (k * n):=by
 induction n with
 | zero=>rfl
 | succ n ih=>rw [Nat.pow_succ,ih,Nat.mul_succ,Zck]
theorem le_pw1 {n : Nat} (h : n <= 900) : n <= pw 1:=by rw [Zah,Zco];omega
theorem Zkx {b : Nat} : ∀ n,n <= 900 -> Zex (pw b) n <= pw ((b + 1) * n)
 | 0,_=>Nat.le_refl _
 | n + 1,h=>by
  have h1:=Zkx (b:=b) n (by omega);have h2 : (n + 1) * (pw b * Zex (pw b) n) <= pw 1 * (pw b * pw ((b + 1) * n)):=Nat.mul_le_mul (le_pw1 h) (Nat.mul_le_mul (Nat.le_refl _) h1);rw [<- Zck,<- Zck] at h2;rw [show (b + 1) * (n + 1) = 1 + (b + (b + 1) * n) by rw [Nat.mul_succ];omega];exact h2
def SmE (k : Nat) (Q : List (List Rat)) : Prop:=∀ i j,(Zh Q i j).num.natAbs <= pw k /\ (Zh Q i j).den <= pw k
section
variable {k n m : Nat} {Q : List (List Rat)}
theorem SmE.denTo (h : SmE k Q) (i t : Nat) : denTo (Q[i]?.getD []) t <= pw (k * t):=by
 rw [<- pw_pow];exact Zqf _ (fun j=>(h i j).2) t
theorem SmE.denAt (h : SmE k Q) {i : Nat} (hr : (Q[i]?.getD []).length = m) : denAt Q i <= pw (k * m):=by
 have:=h.denTo i m;unfold Go.Proofs.YtkcbhbddgmkoiaaGreat.denAt;rw [hr];exact this
theorem Zk8 {z : Int} {d : Nat} {q : Rat} (h : (z : Rat) = (d : Nat) * q) : z.natAbs <= d * q.num.natAbs:=by
 have h1 : (z : Rat) * ((q.den : Nat) : Rat) = ((d : Nat) : Rat) * ((q.num : Int) : Rat):=by
  have e0 : ((q.num : Int) : Rat) / ((q.den : Nat) : Rat) = q:=by have:=Rat.num_divInt_den q;rw [Rat.divInt_eq_div,Rat.intCast_natCast] at this;exact this
  have e1 : ((q.den : Nat) : Rat) ≠ 0:=by
   intro h;have : q.den = 0:=by exact_mod_cast h
   have:=q.den_pos;omega
  have e2 : ((q.num : Int) : Rat) = q * ((q.den : Nat) : Rat):=by
   have : ((q.num : Int) : Rat) / ((q.den : Nat) : Rat) * ((q.den : Nat) : Rat) = ((q.num : Int) : Rat):=by grind
   rw [e0] at this;exact this.symm
  rw [h,e2];grind
 have h2 : z * (q.den : Int) = (d : Int) * q.num:=by exact_mod_cast h1
 have h3:=congrArg Int.natAbs h2;rw [Int.natAbs_mul,Int.natAbs_mul,Int.natAbs_natCast,Int.natAbs_natCast] at h3;rw [<- h3];exact Nat.le_mul_of_pos_right _ q.den_pos
theorem SmE.whole (h : SmE k Q) {i : Nat} (hr : (Q[i]?.getD []).length = m) (j : Nat) : (entZ (Zeo Q) i j).natAbs <= pw (k * m + k):=by
 refine Nat.le_trans (Zk8 (Zf6 Q i j)) ?_;rw [Zck];exact Nat.mul_le_mul (h.denAt hr) (h i j).1
theorem SmE.byZ (h : SmE k Q) (hrow : ∀ i,i < n -> (Q[i]?.getD []).length = m) : ∀ t,t <= n -> byZ Q t <= pw (k * m * t)
 | 0,_=>Nat.le_refl _
 | t + 1,ht=>by
  have h1:=SmE.byZ h hrow t (by omega);have h2:=h.denAt (hrow t (by omega));rw [Nat.mul_succ,Zck];exact Nat.mul_le_mul h1 h2
end
def qM (rs : List RX) : List (List Rat):=rs.map fun r=>r.es.map FX.q
section
variable {w : World} {A : Option Addr} {n c : Nat} {rs : List RX}
theorem Znw (h : MXL w A n c rs) : (qM rs).length = n:=by unfold qM;rw [List.length_map];exact h.1
end
end Go.Proofs.YtkcbhbddgmkoiaaGreat
