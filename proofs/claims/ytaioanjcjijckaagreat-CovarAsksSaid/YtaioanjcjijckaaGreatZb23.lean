/- Centroids: sums over a list of pixels, moments about a -/
import Derived.Deep.LoopGhost
import Derived.Test.YtaioanjcjijckaaGreatZb22
import Derived.Test.YtaioanjcjijckaaGreatZb21
set_option linter.unusedSimpArgs false
set_option linter.unusedVariables false
namespace Go.Proofs.YtaioanjcjijckaaGreat
open Go.RowKit
theorem Zqd (a b:Int) (h:b ≠ 0):(Rat.divInt a b).num.natAbs <= a.natAbs:=by
 rw [Rat.num_divInt];rw [Int.natAbs_ediv_of_dvd]
 ·refine Nat.le_trans (Nat.div_le_self _ _) ?_
  rw [Int.natAbs_mul]
  rcases Int.lt_or_gt_of_ne h with g | g
  ·rw [Int.sign_eq_neg_one_of_neg g];simp
  ·rw [Int.sign_eq_one_of_pos g];simp
 ·exact Int.dvd_trans (Int.gcd_dvd_right _ _) (Int.dvd_mul_left _ _)
theorem Zo4 (a b:Int) (h:b ≠ 0):(Rat.divInt a b).den <= b.natAbs:=by
 rw [Rat.den_divInt,if_neg h];exact Nat.div_le_self _ _
theorem Ze2:1 < pw 1:=by rw [Zaq,Zcw];decide
def SmN (i j:Nat) (r:Rat):Prop:=r.num.natAbs < pw i/\r.den < pw j
theorem SmN.sm {i j:Nat} {r:Rat} (h:SmN i j r) (hi:i <= 1000) (hj:j <= 1000):Sm r:=⟨Nat.lt_of_lt_of_le h.1 (Zdh hi),Nat.lt_of_lt_of_le h.2 (Zdh hj)⟩
theorem SmN.mono {i j i' j':Nat} {r:Rat} (h:SmN i j r) (hi:i <= i') (hj:j <= j'):SmN i' j' r:=⟨Nat.lt_of_lt_of_le h.1 (Zdh hi),Nat.lt_of_lt_of_le h.2 (Zdh hj)⟩
theorem SmN.div {i j:Nat} {n s:Int} (h0:0 < s) (hn:n.natAbs < pw i) (hs:s.natAbs < pw j):SmN i j (Rat.divInt n s):=
 ⟨Nat.lt_of_le_of_lt (Zqd n s (by omega)) hn,Nat.lt_of_le_of_lt (Zo4 n s (by omega)) hs⟩
theorem SmN.int {i:Nat} {n:Int} (hn:n.natAbs < pw i):SmN i 1 (n:Rat):=⟨by simpa using hn,by simp only [Rat.den_intCast];exact Ze2⟩
theorem Zlz {x y z v:Int} {i j i' j':Nat} (hx:x.natAbs < pw i) (hy:y.natAbs < pw j) (hz:z.natAbs < pw i') (hv:v.natAbs < pw j'):(x * y).natAbs+(z * v).natAbs < pw (max (i+j) (i'+j')+1):=by
 have h1:(x * y).natAbs < pw (max (i+j) (i'+j')):=by
  rw [Int.natAbs_mul];exact Nat.lt_of_lt_of_le (Zcv hx hy) (Zdh (by omega))
 have h2:(z * v).natAbs < pw (max (i+j) (i'+j')):=by
  rw [Int.natAbs_mul];exact Nat.lt_of_lt_of_le (Zcv hz hv) (Zdh (by omega))
 have h3:=Ztt (max (i+j) (i'+j'));omega
theorem SmN.dn {i j:Nat} {r:Rat} (h:SmN i j r):((r.den:Nat):Int).natAbs < pw j:=by simpa using h.2
theorem SmN.sub {i j i' j':Nat} {a b:Rat} (ha:SmN i j a) (hb:SmN i' j' b):SmN (max (i+j') (i'+j)+1) (j+j') (a - b):=by
 rw [<- Zm7];refine SmN.div (Zbz a b) ?_ ?_
 ·have:=Zlz ha.1 hb.dn hb.1 ha.dn;omega
 ·rw [Int.natAbs_mul];exact Zcv ha.dn hb.dn
theorem SmN.add {i j i' j':Nat} {a b:Rat} (ha:SmN i j a) (hb:SmN i' j' b):SmN (max (i+j') (i'+j)+1) (j+j') (a+b):=by
 rw [<- Zqy];refine SmN.div (Zbz a b) ?_ ?_
 ·have:=Zlz ha.1 hb.dn hb.1 ha.dn;omega
 ·rw [Int.natAbs_mul];exact Zcv ha.dn hb.dn
structure RF where
 g:Nat
 c:Nat
 q:List Rat
def RF.rs (r:RF):RS:=⟨some ⟨r.g,0,none⟩,r.q.length,r.c⟩
def MatB (tS tF:TypeId) (w:World) (go:Nat) (L:List RF):Prop:=
 (∃ zs,Blk w go tS (Zcd (L.map RF.rs ++ zs)))/\(∀ r ∈ L,FOwn tF w r.g r.q/\r.q.length <= r.c/\r.c <= maxLen)/\(go :: L.map RF.g).Nodup
section
variable {tS tF:TypeId} {w w':World} {go:Nat} {L:List RF}
theorem MatB.below (h:MatB tS tF w go L) (hb:Below w.heap.size w w'):MatB tS tF w' go L:=by
 obtain ⟨⟨zs,h1⟩,h2,h3⟩:=h;exact ⟨⟨zs,Zc hb h1⟩,fun r hr=>⟨(h2 r hr).1.below hb,(h2 r hr).2⟩,h3⟩
theorem MatB.cell (h:MatB tS tF w go L) {i:Nat} {r:RF} (hr:L[i]?=some r):w.cell? ⟨go,i,none⟩=some (.slice (some ⟨r.g,0,none⟩) r.q.length r.c)/\w.frozen? ⟨go,i,none⟩=false:=by
 obtain ⟨⟨zs,h1⟩,-,-⟩:=h;refine ⟨?_,h1.frozen i⟩;rw [h1.cell];refine Zis (e:=r.rs) ?_;have hi:=(List.getElem?_eq_some_iff.1 hr).1;rw [List.getElem?_append_left (by simpa using hi),List.getElem?_map,hr];rfl
theorem MatB.row (h:MatB tS tF w go L) {i:Nat} {r:RF} (hr:L[i]?=some r):FOwn tF w r.g r.q/\r.q.length <= r.c/\r.c <= maxLen:=h.2.1 r (List.mem_of_getElem? hr)
theorem MatB.ne (h:MatB tS tF w go L) {i:Nat} {r:RF} (hr:L[i]?=some r):go ≠ r.g:=fun e=>by
 have:=(List.nodup_cons.1 h.2.2).1;exact this (List.mem_map.2 ⟨r,List.mem_of_getElem? hr,e.symm⟩)
theorem MatB.ne2 (h:MatB tS tF w go L) {i j:Nat} {r s:RF} (hr:L[i]?=some r) (hs:L[j]?=some s) (hij:i ≠ j):r.g ≠ s.g:=fun e=>by
 have hn:=(List.nodup_cons.1 h.2.2).2
 have h1:(L.map RF.g)[i]?=some r.g:=by rw [List.getElem?_map,hr];rfl
 have h2:(L.map RF.g)[j]?=some r.g:=by rw [List.getElem?_map,hs,e];rfl
 exact hij ((List.getElem?_inj (by have:=(List.getElem?_eq_some_iff.1 h1).1;exact this) hn).1 (h1.trans h2.symm))
theorem MatB.boxes (h:MatB tS tF w go L):∀ k,(k=go \/ k ∈ L.map RF.g)->∃ t cs,Blk w k t cs/\NoLimb cs:=by
 intro k hk;obtain ⟨⟨zs,h1⟩,h2,-⟩:=h
 rcases hk with rfl | hk
 ·exact ⟨tS,_,h1,Zfz _⟩
 ·obtain ⟨r,hr,rfl⟩:=List.mem_map.1 hk
  exact (h2 r hr).1.box
theorem MatB.set_ (h:MatB tS tF w go L) {i:Nat} {r:RF} (hr:L[i]?=some r) {k:Nat} (hk:k < r.q.length) {na:Bool} {A:Option Addr} {n c:Nat} {nb:Bool} {B:Option Addr} {m d:Nat} {x:Rat} (hf:Fr w na A n c nb B m d x) :
    MatB tS tF (Zi1 w r.g k na A n c nb B m d) go (L.set i ⟨r.g,r.c,r.q.set k x⟩):=by
 have hne:=h.ne hr
 have hne2:=fun {j:Nat} {s:RF} (hs:L[j]?=some s) (hij:j ≠ i)=>h.ne2 hs hr hij
 have hrow:=h.row hr;have hi:=(List.getElem?_eq_some_iff.1 hr).1;obtain ⟨⟨zs,h1⟩,h2,h3⟩:=h;refine ⟨⟨zs,?_⟩,fun s hs=>?_,?_⟩
 ·have e:(L.set i ⟨r.g,r.c,r.q.set k x⟩).map RF.rs=L.map RF.rs:=by
    rw [List.map_set]
    apply List.ext_getElem?
    intro j;rw [List.getElem?_set]
    by_cases hij:i=j
    ·subst hij
     rw [if_pos rfl,if_pos (by simpa using hi),List.getElem?_map,hr]
     simp [RF.rs]
    ·rw [if_neg hij]
  rw [e];exact Znz h1 hne
 ·obtain ⟨j,hj,hjs⟩:=List.getElem_of_mem hs
  have hs2:(L.set i ⟨r.g,r.c,r.q.set k x⟩)[j]?=some s:=by rw [List.getElem?_eq_getElem hj,hjs]
  rw [List.getElem?_set] at hs2
  by_cases hij:i=j
  ·subst hij
   rw [if_pos rfl,if_pos hi] at hs2
   cases hs2
   exact ⟨hrow.1.set_ hk hf,by simpa using hrow.2.1,hrow.2.2⟩
  ·rw [if_neg hij] at hs2
   have:=h2 s (List.mem_of_getElem? hs2);exact ⟨this.1.other (hne2 hs2 (Ne.symm hij)) hrow.1.box,this.2⟩
 ·have e:(L.set i ⟨r.g,r.c,r.q.set k x⟩).map RF.g=L.map RF.g:=by
    rw [List.map_set]
    apply List.ext_getElem?
    intro j;rw [List.getElem?_set]
    by_cases hij:i=j
    ·subst hij
     rw [if_pos rfl,if_pos (by simpa using hi),List.getElem?_map,hr];rfl
    ·rw [if_neg hij]
  rw [e];exact h3
theorem MatB.keptG {G:Nat->Prop} (h:MatB tS tF w go L) (hk:Kept G w w') (hg:¬ G go) (hgs:∀ r ∈ L,¬ G r.g) (hG:∀ k,G k->∃ t cs,Blk w k t cs/\NoLimb cs):MatB tS tF w' go L:=by
 obtain ⟨⟨zs,h1⟩,h2,h3⟩:=h;refine ⟨⟨zs,hk.blk h1 hg⟩,fun r hr=>⟨?_,(h2 r hr).2⟩,h3⟩;obtain ⟨es,fs,q1,q2,q3⟩:=(h2 r hr).1;exact ⟨es,fs,hk.blk q1 (hgs r hr),fun e he=>⟨hk.wd (q2 e he).1 hG,hk.wd (q2 e he).2 hG⟩,q3⟩
end
def Zcr (L:List RF) (i:Nat):List Rat:=(L[i]?.map RF.q).getD []
theorem Zhj {L:List RF} {i:Nat} {r:RF} (h:L[i]?=some r):Zcr L i=r.q:=by unfold Zcr;rw [h];rfl
theorem Zun {L:List RF} {R:List (List Rat)} (hl:L.length=R.length) (h:∀ i,i < R.length->Zcr L i=R[i]?.getD []):L.map RF.q=R:=by
 apply List.ext_getElem?
 intro i;rw [List.getElem?_map]
 by_cases hi:i < R.length
 ·have:=h i hi
  unfold Zcr at this;rw [List.getElem?_eq_getElem (show i < L.length by omega),List.getElem?_eq_getElem hi] at this ⊢;simp only [Option.map_some,Option.getD_some] at this ⊢;rw [this]
 ·rw [List.getElem?_eq_none (by omega),List.getElem?_eq_none (by omega)];rfl
theorem Zkm (L:List RF) (i:Nat):Zcr L i=(L.map RF.q)[i]?.getD []:=by unfold Zcr;rw [List.getElem?_map]
theorem Zha {R:List (List Rat)} {r col i:Nat} (hi:i < R.length):(Za8 R r col)[i]?.getD []=if i <= r then R[i]?.getD [] else Zkz (R[r]?.getD []) (R[i]?.getD []) col:=by
 unfold Za8;rw [List.getElem?_map,List.getElem?_range hi];rfl
theorem rowR_eq {p row q:List Rat} {col:Nat} (hl:q.length=row.length) (h:∀ t,q[t]?.getD 0=if col <= t/\t < row.length then row[t]?.getD 0 - row[col]?.getD 0 / p[col]?.getD 0 * p[t]?.getD 0 else row[t]?.getD 0):q=Zkz p row col:=by
 apply List.ext_getElem?
 intro t;unfold Zkz;rw [List.getElem?_map];have:=h t
 by_cases ht:t < row.length
 ·rw [List.getElem?_range ht]
  rw [List.getElem?_eq_getElem (show t < q.length by omega)] at this ⊢;simp only [Option.map_some,Option.getD_some] at this ⊢;rw [this]
  by_cases hc:t < col
  ·rw [if_pos hc,if_neg (by omega)]
  ·rw [if_neg hc,if_pos (by omega)]
 ·rw [List.getElem?_eq_none (by omega),List.getElem?_eq_none (l:=List.range _) (by simpa using ht)];rfl
theorem Ztn {row q:List Rat} {col k:Nat} {x:Rat} {f:Nat->Rat} (hl:q.length=row.length) (hk:col <= k) (hkl:k < row.length) (hx:x=f k) (h:∀ t,q[t]?.getD 0=if col <= t/\t < k then f t else row[t]?.getD 0) :
    ∀ t,(q.set k x)[t]?.getD 0=if col <= t/\t < k+1 then f t else row[t]?.getD 0:=by
 intro t;rw [List.getElem?_set]
 by_cases ht:k=t
 ·subst ht
  rw [if_pos rfl,if_pos (by omega),if_pos (by omega),hx];rfl
 ·rw [if_neg ht,h t]
  by_cases h1:col <= t/\t < k
  ·rw [if_pos h1,if_pos (by omega)]
  ·rw [if_neg h1,if_neg (by omega)]
section
variable {a b:Rat} {i j k l:Nat}
theorem SmN.mulN (h:SmN i j a) (g:SmN k l b):SmN (i+k) (j+l) (a * b):=by
 rw [<- Zmp a b];have hd:((a.den:Int) * (b.den:Nat)) ≠ 0:=Int.ne_of_gt (Zbz a b);refine ⟨Nat.lt_of_le_of_lt (Zqd _ _ hd) ?_,Nat.lt_of_le_of_lt (Zo4 _ _ hd) ?_⟩
 ·rw [Int.natAbs_mul];exact Zcv h.1 g.1
 ·rw [Int.natAbs_mul,Int.natAbs_natCast,Int.natAbs_natCast];exact Zcv h.2 g.2
theorem SmN.divN (h:SmN i j a) (g:SmN k l b) (h0:b ≠ 0):SmN (i+l) (j+k) (a / b):=by
 rw [<- Zf7 a b h0];have hd:=Zg8 a b h0;refine ⟨Nat.lt_of_le_of_lt (Zqd _ _ hd) ?_,Nat.lt_of_le_of_lt (Zo4 _ _ hd) ?_⟩
 ·rw [Int.natAbs_mul,Int.natAbs_natCast];exact Zcv h.1 g.2
 ·rw [Int.natAbs_mul,Int.natAbs_natCast];exact Zcv h.2 g.1
end
attribute [local go_sem] Zf
theorem Zuz (L:List RF) (i j:Nat):Zg (L.map RF.q) i j=(Zcr L i)[j]?.getD 0:=by unfold Zg Zcr;rw [List.getElem?_map]
theorem Zi3 {α:Type} {L:List α} {i:Nat} (h:i < L.length):∃ r,L[i]?=some r:=⟨_,List.getElem?_eq_getElem h⟩
theorem Zhz {α β:Type} {f:α->β} {L:List α} {i:Nat} {r s:α} (hr:L[i]?=some r) (h:f s=f r):(L.set i s).map f=L.map f:=by
 rw [List.map_set]
 apply List.ext_getElem?
 intro j;rw [List.getElem?_set]
 split
 ·rename_i hij
  subst hij;have hi:=(List.getElem?_eq_some_iff.1 hr).1;rw [if_pos (by simpa using hi),List.getElem?_map,hr,h];rfl
 ·rfl
theorem Zuf {L:List RF} {i j:Nat} {r:RF} (hi:i < L.length):Zcr (L.set i r) j=if j=i then r.q else Zcr L j:=by
 unfold Zcr;rw [List.getElem?_set]
 by_cases h:i=j
 ·subst h;rw [if_pos rfl,if_pos hi,if_pos rfl];rfl
 ·rw [if_neg h,if_neg (Ne.symm h)]
def ClrTo (L L2:List RF) (r col i:Nat):Prop:=∀ j,j < L.length->Zcr L2 j=if j <= r \/ i <= j then Zcr L j else Zkz (Zcr L r) (Zcr L j) col
theorem ClrTo.step {L L2:List RF} {r col i:Nat} {x:RF} (h:ClrTo L L2 r col i) (hl:L2.length=L.length) (hi:i < L.length) (hri:r < i) (hx:x.q=Zkz (Zcr L r) (Zcr L i) col):ClrTo L (L2.set i x) r col (i+1):=by
 intro j hj;rw [Zuf (by omega),h j hj]
 by_cases hji:j=i
 ·subst hji;rw [if_pos rfl,hx,if_neg (by omega)]
 ·rw [if_neg hji]
  by_cases h1:j <= r \/ i <= j
  ·rw [if_pos h1,if_pos (by omega)]
  ·rw [if_neg h1,if_neg (by omega)]
theorem ClrTo.done {L L2:List RF} {r col:Nat} (h:ClrTo L L2 r col L.length) (hl:L2.length=L.length):L2.map RF.q=Za8 (L.map RF.q) r col:=by
 refine Zun (by rw [Zea];simpa using hl) (fun i hi=>?_);rw [Zea,List.length_map] at hi;rw [h i hi,Zha (by simpa using hi),<- Zkm,<- Zkm]
 by_cases h1:i <= r
 ·rw [if_pos (Or.inl h1),if_pos h1]
 ·rw [if_neg (by omega),if_neg h1]
end Go.Proofs.YtaioanjcjijckaaGreat
