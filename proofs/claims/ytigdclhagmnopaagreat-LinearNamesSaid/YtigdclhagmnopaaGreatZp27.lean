/- A matrix of fractions that grows row by row; the -/
import Derived.Test.YtigdclhagmnopaaGreatZp26
set_option maxRecDepth 100000
set_option maxHeartbeats 8000000
set_option linter.unusedSimpArgs false
set_option linter.unusedVariables false
namespace Go.Proofs.YtigdclhagmnopaaGreat
open Go.RowKit
attribute [local go_sem] Zh
section
variable {P : Program} (w : World)
theorem Zbx {o : Oper} {a : Act} {K : Act -> World -> Prop} {Q : Exit -> Act -> World -> Prop} (s x : Operand) (t : TypeId)
    (ho : o.op = .call { callee:=.builtin .append,args:=#[s,x],argTypes:=#[t,t] })
    (base : Nat) (e : TypeId) (i : TypeInfo) (ht : P.underlying t = some (.slice e)) (hi : P.info? e = some i) (hz : i.zero = some (.slice none 0 0)) (hsi : i.size = 1) (hby : i.bytes = 24)
    (v : Value) (rs : List RS) (hs : a.eval s = v) (hown : RowS e w base v rs)
    (B : Nat) (A : Option Addr) (m c : Nat) (fs : List RS) (hx : a.eval x = .slice A m c) (hr : Reads w B 1 A m (Zao fs)) (hm : fs.length = m)
    (h63 : rs.length + m <= 1000) (hbase : base <= w.heap.size)
    (h : ∀ v' w',RowS e w' base v' (rs ++ fs) -> w.grownBy w' v.ownBlock -> (∀ (A : Option Addr) (n c : Nat) (l : List Nat),Lim w A n c l -> Lim w' A n c l) -> K (a.put o.dst v') w') : o.wp P a w K Q:=by
 obtain ⟨v',w',hrun,h3,h4⟩:=Zku (P:=P) w base t o.type e i ht hi hz hsi hby v rs hown B A m c fs hr hm h63 hbase;unfold Oper.wp execOp;simp only [ho,resolve,invoke,builtin,Sem.run_bind,Sem.run_pure,Result.andThen_ok,List.map_toArray,List.map_cons,List.map_nil,hs,hx,hrun];exact h v' w' h3 h4 (fun _ _ _ _ hL=>hown.keep h4 hL)
theorem Zit {ops : Array Oper} {rest : List Oper} {o : Oper} {a : Act} {Q : Exit -> Act -> World -> Prop} (hgd : o.guard = none) (s x : Operand) (t : TypeId)
    (ho : o.op = .call { callee:=.builtin .append,args:=#[s,x],argTypes:=#[t,t] })
    (base : Nat) (e : TypeId) (i : TypeInfo) (ht : P.underlying t = some (.slice e)) (hi : P.info? e = some i) (hz : i.zero = some (.slice none 0 0)) (hsi : i.size = 1) (hby : i.bytes = 24)
    (v : Value) (rs : List RS) (hs : a.eval s = v) (hown : RowS e w base v rs)
    (B : Nat) (A : Option Addr) (m c : Nat) (fs : List RS) (hx : a.eval x = .slice A m c) (hr : Reads w B 1 A m (Zao fs)) (hm : fs.length = m)
    (h63 : rs.length + m <= 1000) (hbase : base <= w.heap.size)
    (h : ∀ v' w',RowS e w' base v' (rs ++ fs) -> w.grownBy w' v.ownBlock -> (∀ (A : Option Addr) (n c : Nat) (l : List Nat),Lim w A n c l -> Lim w' A n c l) -> wpList P ops Q rest (a.put o.dst v') w') : wpList P ops Q (o :: rest) a w:=
 wpList_plain hgd fun _ hK=>Zbx w s x t ho base e i ht hi hz hsi hby v rs hs hown B A m c fs hx hr hm h63 hbase fun v' w' h2 h3 h4=>hK _ _ (h v' w' h2 h3 h4)
end
theorem Zsq (w : World) (A : Option Addr) (n c : Nat) (t : TypeId) : Reads (w.alloc (.cells #[.slice A n c] t)) (w.heap.size + 1) 1 (some ⟨w.heap.size,0,none⟩) 1 (Zao [⟨A,n,c⟩]):=
 ⟨rfl,fun _=>⟨_,rfl,Nat.lt_succ_self _,fun j u hu=>by
  rw [Zh,Nat.zero_add,(Blk.new w t #[.slice A n c]).cell]
  simpa [Zao] using hu⟩⟩
theorem FL.reads {w : World} {A : Option Addr} {n c : Nat} {qs : List Rat} (h : FL w A n c qs) : ∃ fs : List FE,Reads w w.heap.size 4 A n (Zo fs) /\ fs.length = n /\ (∀ e ∈ fs,e.in_ w) /\ fs.map FE.q = qs:=by
 obtain ⟨es,h1,h2,h3,h4,h5,h6⟩:=h;refine ⟨es,⟨by rw [Zr,h1],fun hn=>?_⟩,h1,h4,h5⟩;obtain ⟨g,o,e1,hc⟩:=h6 hn;refine ⟨⟨g,o,none⟩,e1,?_,fun j u hu=>?_⟩
 ·have:=(hc 0 es[0] (List.getElem?_eq_getElem (by omega))).1
  exact Zp this
 ·rw [Zh]
  have hj : j < es.length * 4:=by
   have:=(List.getElem?_eq_some_iff.1 hu).1
   rwa [Zr] at this
  have he:=List.getElem?_eq_getElem (show j / 4 < es.length by omega);have hg:=Zej he;have hm:=hc (j / 4) _ he
  have h4 : j % 4 = 0 \/ j % 4 = 1 \/ j % 4 = 2 \/ j % 4 = 3:=by omega
  rcases h4 with h2 | h2 | h2 | h2
  ·rw [show j / 4 * 4 = j by omega] at hg hm;rw [hg.1] at hu;cases hu;exact hm.1
  ·rw [show j / 4 * 4 + 1 = j by omega] at hg hm;rw [hg.2.1] at hu;cases hu;exact hm.2.1
  ·rw [show j / 4 * 4 + 2 = j by omega] at hg hm;rw [hg.2.2.1] at hu;cases hu;exact hm.2.2.1
  ·rw [show j / 4 * 4 + 3 = j by omega] at hg hm;rw [hg.2.2.2] at hu;cases hu;exact hm.2.2.2
theorem Zd5 : (Tryz.prog.info? 45).map (fun i=>(i.zero,i.size,i.bytes)) = some (some (.agg #[.bool false,.slice none 0 0,.bool false,.slice none 0 0]),4,64):=by kernel_rfl
theorem Zha : (Tryz.prog.info? 40).map (fun i=>(i.zero,i.size,i.bytes)) = some (some (.slice none 0 0),1,24):=by kernel_rfl
theorem Blk.type {w : World} {g : Nat} {t t' : TypeId} {cs cs' : Array Value} (h : Blk w g t cs) (h' : Blk w g t' cs') : t = t':=by
 unfold Blk at h h';rw [h] at h'
 cases h';rfl
section
variable {tS tF : TypeId} {w w' : World} {base : Nat} {v v' : Value} {L : List RF}
theorem RowS.ownType {rs : List RS} (h : RowS tS w base v rs) {g : Nat} {cs : Array Value} (hb : Blk w g tF cs) (hne : tS ≠ tF) : v.ownBlock ≠ some g:=by
 rintro e
 rcases h with ⟨rfl,_⟩ | ⟨g',sp,rfl,_,_,h4⟩
 ·cases e
 ·have : g' = g:=by simpa [Value.ownBlock] using e
  subst this;exact hne (h4.type hb)
theorem FOwn.grown {g : Nat} {qs : List Rat} (h : FOwn tF w g qs) (hg : w.grownBy w' v.ownBlock) (hne : v.ownBlock ≠ some g) (hk : ∀ (A : Option Addr) (n c : Nat) (l : List Nat),Lim w A n c l -> Lim w' A n c l) : FOwn tF w' g qs:=by
 obtain ⟨es,zs,h1,h2,h3⟩:=h;exact ⟨es,zs,(hg.block g h1.lt (fun e=>hne (by first | exact e | exact e.symm))).trans h1,fun e he=>(h2 e he).of_keep hk,h3⟩
end
structure RZ where
 g : Nat
 q : List Int
def RZ.rs (r : RZ) : RS:=⟨some ⟨r.g,0,none⟩,r.q.length,r.q.length⟩
def MatZ (tS tF : TypeId) (w : World) (go : Nat) (L : List RZ) : Prop:=
 (∃ zs,Blk w go tS (Z2 (L.map RZ.rs ++ zs))) /\ (∀ r ∈ L,POwn tF w r.g r.q /\ r.q.length <= maxLen) /\ (go :: L.map RZ.g).Nodup
section
variable {tS tF : TypeId} {w w' : World} {go : Nat} {L : List RZ}
theorem MatZ.below (h : MatZ tS tF w go L) (hb : Below w.heap.size w w') : MatZ tS tF w' go L:=by
 obtain ⟨⟨zs,h1⟩,h2,h3⟩:=h;exact ⟨⟨zs,Zb hb h1⟩,fun r hr=>⟨(h2 r hr).1.below hb,(h2 r hr).2⟩,h3⟩
theorem MatZ.cell (h : MatZ tS tF w go L) {i : Nat} {r : RZ} (hr : L[i]? = some r) : w.cell? ⟨go,i,none⟩ = some (.slice (some ⟨r.g,0,none⟩) r.q.length r.q.length) /\ w.frozen? ⟨go,i,none⟩ = false:=by
 obtain ⟨⟨zs,h1⟩,-,-⟩:=h;refine ⟨?_,h1.frozen i⟩;rw [h1.cell];refine Zbi (e:=r.rs) ?_;have hi:=(List.getElem?_eq_some_iff.1 hr).1;rw [List.getElem?_append_left (by simpa using hi),List.getElem?_map,hr];rfl
theorem MatZ.row (h : MatZ tS tF w go L) {i : Nat} {r : RZ} (hr : L[i]? = some r) : POwn tF w r.g r.q /\ r.q.length <= maxLen:=h.2.1 r (List.mem_of_getElem? hr)
theorem MatZ.ne (h : MatZ tS tF w go L) {i : Nat} {r : RZ} (hr : L[i]? = some r) : go ≠ r.g:=fun e=>by
 have:=(List.nodup_cons.1 h.2.2).1;exact this (List.mem_map.2 ⟨r,List.mem_of_getElem? hr,e.symm⟩)
theorem MatZ.ne2 (h : MatZ tS tF w go L) {i j : Nat} {r s : RZ} (hr : L[i]? = some r) (hs : L[j]? = some s) (hij : i ≠ j) : r.g ≠ s.g:=fun e=>by
 have hn:=(List.nodup_cons.1 h.2.2).2
 have h1 : (L.map RZ.g)[i]? = some r.g:=by rw [List.getElem?_map,hr];rfl
 have h2 : (L.map RZ.g)[j]? = some r.g:=by rw [List.getElem?_map,hs,e];rfl
 exact hij ((List.getElem?_inj (by have:=(List.getElem?_eq_some_iff.1 h1).1;exact this) hn).1 (h1.trans h2.symm))
theorem MatZ.boxes (h : MatZ tS tF w go L) : ∀ k,(k = go \/ k ∈ L.map RZ.g) -> ∃ t cs,Blk w k t cs /\ NoLimb cs:=by
 intro k hk;obtain ⟨⟨zs,h1⟩,h2,-⟩:=h
 rcases hk with rfl | hk
 ·exact ⟨tS,_,h1,Zbb _⟩
 ·obtain ⟨r,hr,rfl⟩:=List.mem_map.1 hk
  exact (h2 r hr).1.box
theorem MatZ.set_ (h : MatZ tS tF w go L) {i : Nat} {r : RZ} (hr : L[i]? = some r) {k : Nat} (hk : k < r.q.length) {na : Bool} {A : Option Addr} {n c : Nat} {x : Int} (hf : Wd w na A n c x) :
    MatZ tS tF ((w.setCell ⟨r.g,k * 2,none⟩ (.bool na)).setCell ⟨r.g,k * 2 + 1,none⟩ (.slice A n c)) go (L.set i ⟨r.g,r.q.set k x⟩):=by
 have hne:=h.ne hr
 have hne2:=fun {j : Nat} {s : RZ} (hs : L[j]? = some s) (hij : j ≠ i)=>h.ne2 hs hr hij
 have hrow:=h.row hr;have hi:=(List.getElem?_eq_some_iff.1 hr).1;obtain ⟨⟨zs,h1⟩,h2,h3⟩:=h;refine ⟨⟨zs,?_⟩,fun s hs=>?_,?_⟩
 ·have e : (L.set i ⟨r.g,r.q.set k x⟩).map RZ.rs = L.map RZ.rs:=by
    rw [List.map_set]
    apply List.ext_getElem?
    intro j;rw [List.getElem?_set]
    by_cases hij : i = j
    ·subst hij
     rw [if_pos rfl,if_pos (by simpa using hi),List.getElem?_map,hr]
     simp [RZ.rs]
    ·rw [if_neg hij]
  rw [e];exact (h1.far hne _).far hne _
 ·obtain ⟨j,hj,hjs⟩:=List.getElem_of_mem hs
  have hs2 : (L.set i ⟨r.g,r.q.set k x⟩)[j]? = some s:=by rw [List.getElem?_eq_getElem hj,hjs]
  rw [List.getElem?_set] at hs2
  by_cases hij : i = j
  ·subst hij
   rw [if_pos rfl,if_pos hi] at hs2
   cases hs2
   exact ⟨hrow.1.set_ hk hf,by simpa using hrow.2⟩
  ·rw [if_neg hij] at hs2
   have:=h2 s (List.mem_of_getElem? hs2);exact ⟨this.1.other hrow.1 (hne2 hs2 (Ne.symm hij)) _ _ _ _ _,this.2⟩
 ·have e : (L.set i ⟨r.g,r.q.set k x⟩).map RZ.g = L.map RZ.g:=by
    rw [List.map_set]
    apply List.ext_getElem?
    intro j;rw [List.getElem?_set]
    by_cases hij : i = j
    ·subst hij
     rw [if_pos rfl,if_pos (by simpa using hi),List.getElem?_map,hr];rfl
    ·rw [if_neg hij]
  rw [e];exact h3
theorem MatZ.swap (h : MatZ tS tF w go L) {i j : Nat} {r s : RZ} (hr : L[i]? = some r) (hs : L[j]? = some s) :
    MatZ tS tF ((w.setCell ⟨go,i,none⟩ (.slice (some ⟨s.g,0,none⟩) s.q.length s.q.length)).setCell ⟨go,j,none⟩ (.slice (some ⟨r.g,0,none⟩) r.q.length r.q.length)) go (Zac L i j):=by
 have hi:=(List.getElem?_eq_some_iff.1 hr).1;have hj:=(List.getElem?_eq_some_iff.1 hs).1
 have hne:=fun {j : Nat} {s : RZ} (hs : L[j]? = some s)=>h.ne hs
 obtain ⟨⟨zs,h1⟩,h2,h3⟩:=h;have hb1:=h1.set_ i (.slice (some ⟨s.g,0,none⟩) s.q.length s.q.length);have hn1 : NoLimb ((Z2 (L.map RZ.rs ++ zs)).setIfInBounds i (.slice (some ⟨s.g,0,none⟩) s.q.length s.q.length)):=Zff (Zbb _) i (fun x=>by simp);have hb2:=hb1.set_ j (.slice (some ⟨r.g,0,none⟩) r.q.length r.q.length)
 have hk : ∀ (A : Option Addr) (n c : Nat) (l : List Nat),Lim w A n c l -> Lim ((w.setCell ⟨go,i,none⟩ (.slice (some ⟨s.g,0,none⟩) s.q.length s.q.length)).setCell ⟨go,j,none⟩ (.slice (some ⟨r.g,0,none⟩) r.q.length r.q.length)) A n c l:=
  fun A n c l hl=>(hl.set_box h1 (Zbb _) _ _).set_box hb1 hn1 _ _
 refine ⟨⟨zs,?_⟩,fun x hx=>?_,?_⟩
 ·have e : Z2 ((Zac L i j).map RZ.rs ++ zs) = ((Z2 (L.map RZ.rs ++ zs)).setIfInBounds i (.slice (some ⟨s.g,0,none⟩) s.q.length s.q.length)).setIfInBounds j (.slice (some ⟨r.g,0,none⟩) r.q.length r.q.length):=by
    have e1:=Zdv (es:=L.map RZ.rs ++ zs) (i:=i) s.rs;have e2:=Zdv (es:=(L.map RZ.rs ++ zs).set i s.rs) (i:=j) r.rs;simp only [RZ.rs] at e1 e2;rw [e1,e2,Zt6 hr hs]
    congr 1
    rw [List.map_set,List.map_set,List.set_append_left _ _ (by simpa using hi),List.set_append_left _ _ (by simpa using hj)]
    rfl
  rw [e];exact hb2
 ·have hx2:=Zho L i j x hx
  obtain ⟨es,q1,q2,q3⟩:=(h2 x hx2).1;obtain ⟨k,hk1,hk2⟩:=List.getElem_of_mem hx2;have hgx : x.g ≠ go:=Ne.symm (hne (j:=k) (s:=x) (by rw [List.getElem?_eq_getElem hk1,hk2]));exact ⟨⟨es,(q1.far hgx _).far hgx _,fun e he=>⟨hk _ _ _ _ (q2 e he).1,(q2 e he).2⟩,q3⟩,(h2 x hx2).2⟩
 ·rw [List.nodup_cons] at h3 ⊢
  rw [Zjb];refine ⟨fun hm=>h3.1 (Zho _ _ _ _ hm),Zpr h3.2 (by simpa using hi) (by simpa using hj)⟩
theorem MatZ.keptG {G : Nat -> Prop} (h : MatZ tS tF w go L) (hk : Kept G w w') (hg : ¬ G go) (hgs : ∀ r ∈ L,¬ G r.g) (hG : ∀ k,G k -> ∃ t cs,Blk w k t cs /\ NoLimb cs) : MatZ tS tF w' go L:=by
 obtain ⟨⟨zs,h1⟩,h2,h3⟩:=h;refine ⟨⟨zs,hk.blk h1 hg⟩,fun r hr=>⟨?_,(h2 r hr).2⟩,h3⟩;obtain ⟨es,q1,q2,q3⟩:=(h2 r hr).1;exact ⟨es,hk.blk q1 (hgs r hr),fun e he=>⟨hk.lim (q2 e he).1 hG,(q2 e he).2⟩,q3⟩
end
def Zaq (L : List RZ) (i : Nat) : List Int:=(L[i]?.map RZ.q).getD []
theorem Zgk {L : List RZ} {i : Nat} {r : RZ} (h : L[i]? = some r) : Zaq L i = r.q:=by unfold Zaq;rw [h];rfl
theorem Zis (L : List RZ) (i j : Nat) : Z7 (L.map RZ.q) i j = (Zaq L i)[j]?.getD 0:=by unfold Z7 Zaq;rw [List.getElem?_map]
theorem Zi1 (L : List RZ) (i : Nat) : Zaq L i = (L.map RZ.q)[i]?.getD []:=by unfold Zaq;rw [List.getElem?_map]
theorem Zrz {L : List RZ} {i j : Nat} {r : RZ} (hi : i < L.length) : Zaq (L.set i r) j = if j = i then r.q else Zaq L j:=by
 unfold Zaq;rw [List.getElem?_set]
 by_cases h : i = j
 ·subst h;rw [if_pos rfl,if_pos hi,if_pos rfl];rfl
 ·rw [if_neg h,if_neg (Ne.symm h)]
theorem Zt9 {L : List RZ} {R : List (List Int)} (hl : L.length = R.length) (h : ∀ i,i < R.length -> Zaq L i = R[i]?.getD []) : L.map RZ.q = R:=by
 apply List.ext_getElem?
 intro i;rw [List.getElem?_map]
 by_cases hi : i < R.length
 ·have:=h i hi
  unfold Zaq at this;rw [List.getElem?_eq_getElem (show i < L.length by omega),List.getElem?_eq_getElem hi] at this ⊢;simp only [Option.map_some,Option.getD_some] at this ⊢;rw [this]
 ·rw [List.getElem?_eq_none (by omega),List.getElem?_eq_none (by omega)];rfl
theorem Zpz {R : List (List Int)} {r col i : Nat} {last : Int} (hi : i < R.length) : (Zc5 R r col last)[i]?.getD [] = if i <= r then R[i]?.getD [] else Zoc (R[r]?.getD []) (R[i]?.getD []) col (Z7 R r col) last:=by
 unfold Zc5;rw [List.getElem?_map,List.getElem?_range hi];rfl
theorem rowZ_eq {p row q : List Int} {col : Nat} {piv last : Int} (hl : q.length = row.length) (h : ∀ t,q[t]?.getD 0 = if t < row.length then Int.fdiv (row[t]?.getD 0 * piv - row[col]?.getD 0 * p[t]?.getD 0) last else row[t]?.getD 0) : q = Zoc p row col piv last:=by
 apply List.ext_getElem?
 intro t;unfold Zoc;rw [List.getElem?_map];have:=h t
 by_cases ht : t < row.length
 ·rw [List.getElem?_range ht]
  rw [List.getElem?_eq_getElem (show t < q.length by omega)] at this ⊢;simp only [Option.map_some,Option.getD_some] at this ⊢;rw [this,if_pos ht]
 ·rw [List.getElem?_eq_none (by omega),List.getElem?_eq_none (l:=List.range _) (by simpa using ht)];rfl
theorem Ztd {row q : List Int} {k : Nat} {x : Int} {f : Nat -> Int} (hl : q.length = row.length) (hkl : k < row.length) (hx : x = f k) (h : ∀ t,q[t]?.getD 0 = if t < k then f t else row[t]?.getD 0) :
    ∀ t,(q.set k x)[t]?.getD 0 = if t < k + 1 then f t else row[t]?.getD 0:=by
 intro t;rw [List.getElem?_set]
 by_cases ht : k = t
 ·subst ht
  rw [if_pos rfl,if_pos (by omega),if_pos (by omega),hx];rfl
 ·rw [if_neg ht,h t]
  by_cases h1 : t < k
  ·rw [if_pos h1,if_pos (by omega)]
  ·rw [if_neg h1,if_neg (by omega)]
theorem Zc0 (na nb : Bool) (A B : Option Addr) (n c m d : Nat) (a b : Int) (w : World) (ha : Wd w na A n c a) (hb : Wd w nb B m d b) (hs : (a * b).natAbs < pw 4096) :
    Calls Tryz.prog 97 #[.agg #[.bool na,.slice A n c],.agg #[.bool nb,.slice B m d]] w (NumW w (a * b)):=by
 obtain ⟨W0,hW0,hB0,⟨q0,q1,q2⟩,s0⟩:=Zee w 43 #[.bool na,.slice A n c] 43 #[.bool nb,.slice B m d] 43 #[.bool false,.slice none 0 0];have hA:=ha.below hB0;have hD:=hb.below hB0;have hC:=Za (Zhs na nb A B n c m d a b W0 hA hD);clear ha hb hA hD;obtain ⟨a0,a1,-⟩:=q0.two;obtain ⟨b0,b1,-⟩:=q1.two;replace q2:=Za q2;replace hs:=Za hs;clear q0 q1;go_enter Tryz.func97,Tryz.ntmps97;go_wp2_with fail;refine hC.out.mono ?_;rintro e w1 ⟨hb1,n2,A2,k2,c2,code,rfl,hR⟩;have hN:=hR.small hs.out;have hB1:=hB0.trans (hb1.mono hB0.size);have s1:=hb1.size;have q3:=Zb hb1 q2.out;clear hb1 a0 a1 b0 b1 hW0 hR hC q2;obtain ⟨V,hV,hBV,qv,kW,kB,sV⟩:=Zy 43 #[.bool n2,.slice A2 k2 c2] hB1 hB1.size;have q4:=kB _ _ _ q3;have hN2:=Za (kW _ _ _ _ _ hN);clear kW kB hN;obtain ⟨v0,v1,v2,v3⟩:=qv.two;obtain ⟨r0,r1,r2,r3⟩:=q4.two;go_wp2_with fail;obtain ⟨X,hX,hBX,q5,st⟩:=Zax n2 A2 k2 c2 hBV (by omega) q4;(try rw [hX]);obtain ⟨y0,y1,-⟩:=q5.two;refine bodyPost_ret (v:=.agg #[.bool n2,.slice A2 k2 c2]) (by simp [results,Tryz.results97,go_sem,y0,y1]) rfl ?_;exact ⟨hBX,_,_,_,_,rfl,st.1 _ _ _ _ _ hN2.out⟩
theorem lsub_ok (na nb : Bool) (A B : Option Addr) (n c m d : Nat) (a b : Int) (w : World) (ha : Wd w na A n c a) (hb : Wd w nb B m d b) (hs : (a - b).natAbs < pw 4096) :
    Calls Tryz.prog 100 #[.agg #[.bool na,.slice A n c],.agg #[.bool nb,.slice B m d]] w (NumW w (a - b)):=by
 obtain ⟨W0,hW0,hB0,⟨q0,q1,q2⟩,s0⟩:=Zee w 43 #[.bool na,.slice A n c] 43 #[.bool nb,.slice B m d] 43 #[.bool false,.slice none 0 0];have hA:=ha.below hB0;have hD:=hb.below hB0;have hC:=Za (Zt8 na nb A B n c m d a b W0 hA hD);clear ha hb hA hD;obtain ⟨a0,a1,-⟩:=q0.two;obtain ⟨b0,b1,-⟩:=q1.two;replace q2:=Za q2;replace hs:=Za hs;clear q0 q1;go_enter Tryz.func100,Tryz.ntmps100;go_wp2_with fail;refine hC.out.mono ?_;rintro e w1 ⟨hb1,n2,A2,k2,c2,code,rfl,hR⟩;have hN:=hR.small hs.out;have hB1:=hB0.trans (hb1.mono hB0.size);have s1:=hb1.size;have q3:=Zb hb1 q2.out;clear hb1 a0 a1 b0 b1 hW0 hR hC q2;obtain ⟨V,hV,hBV,qv,kW,kB,sV⟩:=Zy 43 #[.bool n2,.slice A2 k2 c2] hB1 hB1.size;have q4:=kB _ _ _ q3;have hN2:=Za (kW _ _ _ _ _ hN);clear kW kB hN;obtain ⟨v0,v1,v2,v3⟩:=qv.two;obtain ⟨r0,r1,r2,r3⟩:=q4.two;go_wp2_with fail;obtain ⟨X,hX,hBX,q5,st⟩:=Zax n2 A2 k2 c2 hBV (by omega) q4;(try rw [hX]);obtain ⟨y0,y1,-⟩:=q5.two;refine bodyPost_ret (v:=.agg #[.bool n2,.slice A2 k2 c2]) (by simp [results,Tryz.results100,go_sem,y0,y1]) rfl ?_;exact ⟨hBX,_,_,_,_,rfl,st.1 _ _ _ _ _ hN2.out⟩
theorem Zng (na nb : Bool) (A B : Option Addr) (n c m d : Nat) (a b : Int) (w : World) (ha : Wd w na A n c a) (hb : Wd w nb B m d b) (h0 : b ≠ 0) :
    Calls Tryz.prog 98 #[.agg #[.bool na,.slice A n c],.agg #[.bool nb,.slice B m d]] w (NumW w (Int.fdiv a b)):=by
 obtain ⟨W0,hW0,hB0,⟨q0,q1,q2⟩,s0⟩:=Zee w 43 #[.bool na,.slice A n c] 43 #[.bool nb,.slice B m d] 43 #[.bool false,.slice none 0 0];have hA:=ha.below hB0;have hD:=hb.below hB0;have hC:=Za (Ze3 na nb A B n c m d a b W0 hA hD h0);clear ha hb hA hD;obtain ⟨a0,a1,-⟩:=q0.two;obtain ⟨b0,b1,-⟩:=q1.two;replace q2:=Za q2;replace h0:=Za h0;clear q0 q1;go_enter Tryz.func98,Tryz.ntmps98;go_wp2_with fail;refine hC.out.mono ?_;rintro e w1 ⟨hb1,n2,A2,k2,c2,n3,A3,k3,c3,rfl,hN,-⟩;have hB1:=hB0.trans (hb1.mono hB0.size);have s1:=hb1.size;have q3:=Zb hb1 q2.out;clear hb1 a0 a1 b0 b1 hW0 hC q2;obtain ⟨V,hV,hBV,qv,kW,kB,sV⟩:=Zy 43 #[.bool n2,.slice A2 k2 c2] hB1 hB1.size;have q4:=kB _ _ _ q3;have hN2:=kW _ _ _ _ _ hN;clear kW kB hN;obtain ⟨V2,hV2,hBV2,qv2,kW,kB,sV2⟩:=Zy 43 #[.bool n3,.slice A3 k3 c3] hBV (by omega);replace q4:=kB _ _ _ q4;replace qv:=kB _ _ _ qv;replace hN2:=Za (kW _ _ _ _ _ hN2);clear kW kB;obtain ⟨v0,v1,v2,v3⟩:=qv.two;obtain ⟨r0,r1,r2,r3⟩:=q4.two;rw [<- hV] at hV2;rw [<- hV2] at v0 v1 v2 v3 r0 r1 r2 r3;replace hV2:=Za hV2;clear hV;go_wp2_with fail;(try rw [hV2.out]);obtain ⟨X,hX,hBX,q5,st⟩:=Zax n2 A2 k2 c2 hBV2 (by omega) q4;(try rw [hX]);obtain ⟨y0,y1,-⟩:=q5.two;refine bodyPost_ret (v:=.agg #[.bool n2,.slice A2 k2 c2]) (by simp [results,Tryz.results98,go_sem,y0,y1]) rfl ?_;exact ⟨hBX,_,_,_,_,rfl,st.1 _ _ _ _ _ hN2.out⟩
theorem Zi3 (neg : Bool) (A : Option Addr) (n c : Nat) (w : World) (hn : n <= 1000000000) (b : Bool) (hb : ((n : Int) == 0) = b) :
    Calls Tryz.prog 57 #[.agg #[.bool neg,.slice A n c]] w fun e w'=>e = .returned (.bool b) /\ Below w.heap.size w w':=by
 go_enter Tryz.func57,Tryz.ntmps57;go_wp2_with fail;go_ret;exact ⟨rfl,by go_grown⟩
theorem Zqv (na nb : Bool) (A B : Option Addr) (n c m d : Nat) (za zb : Int) (w : World) (ha : Wd w na A n c za) (hb : Wd w nb B m d zb) :
    Calls Tryz.prog 126 #[.agg #[.bool na,.slice A n c],.agg #[.bool nb,.slice B m d]] w (ResW w (za + zb)):=by
 have hLa:=ha.lim;have hLb:=hb.lim;have hn:=ha.2.1;have hm:=hb.2.1
 have hB0 : ∀ X Y Z V : Obj,Below w.heap.size w ((((w.alloc X).alloc Y).alloc Z).alloc V):=fun X Y Z V=>((((Below.refl w.heap.size w).alloc (Nat.le_refl _) _).alloc (by simp) _).alloc (by simp;omega) _).alloc (by simp;omega) _
 have hW : ∀ X Y Z t,WL ((((w.alloc X).alloc Y).alloc Z).alloc (.cells #[.bool na,.slice A n c,.bool nb,.slice B m d] t)) (some ⟨w.heap.size + 1 + 1 + 1,0,none⟩) 2 2 [⟨na,A,n,c,digits za.natAbs⟩,⟨nb,B,m,d,digits zb.natAbs⟩]:=fun X Y Z t=>by
  have:=WL.two (neg:=na) (neg':=nb) (((hLa.alloc X).alloc Y).alloc Z) (((hLb.alloc X).alloc Y).alloc Z) t;simp only [World.size_alloc] at this;exact this
 have hW:=Za hW;have hB0:=Za hB0;have hgood : Hid (okW na (digits za.natAbs) = true /\ okW nb (digits zb.natAbs) = true):=⟨ha.ok,hb.ok⟩;have hza:=Za ha.sgEq;have hzb:=Za hb.sgEq;clear ha hb;go_enter Tryz.func126,Tryz.ntmps126;go_wp2_with fail;refine (Zda (hW.out _ _ _ _) (by have:=hgood.out;simp [WE.ok,this])).mono ?_;rintro e w1 ⟨rfl,hb1⟩;obtain ⟨hc1,hf1⟩:=Zcv hb1
 have hz1 : w.heap.size + 1 + 1 + 1 < w1.heap.size:=by have:=hb1.size;simp at this;omega
 have hB1 : Below w.heap.size w w1:=(hB0.out _ _ _ _).trans (hb1.mono (by simp;omega))
 have g0 : w1.cell? ⟨w.heap.size,0,none⟩ = some (.bool na):=by simp [hc1,go_sem]
 have g1 : w1.cell? ⟨w.heap.size,1,none⟩ = some (.slice A n c):=by simp [hc1,go_sem]
 have g2 : w1.cell? ⟨w.heap.size + 1,0,none⟩ = some (.bool nb):=by simp [hc1,go_sem]
 have g3 : w1.cell? ⟨w.heap.size + 1,1,none⟩ = some (.slice B m d):=by simp [hc1,go_sem]
 have gf : w1.frozen? ⟨w.heap.size + 1,0,none⟩ = false:=by simp [hf1,go_sem]
 have gB : Blk w1 (w.heap.size + 1) 43 #[.bool nb,.slice B m d]:=by
  refine Zb hb1 ((Blk.alloc (Blk.alloc ?_ _) _));have:=Blk.new (w.alloc (.cells #[.bool na,.slice A n c] 43)) 43 #[.bool nb,.slice B m d];simp only [World.size_alloc] at this;exact this
 have g7 : Blk w1 (w.heap.size + 1 + 1) 43 #[.bool false,.slice none 0 0]:=by
  refine Zb hb1 (Blk.alloc ?_ _);have:=Blk.new ((w.alloc (.cells #[.bool na,.slice A n c] 43)).alloc (.cells #[.bool nb,.slice B m d] 43)) 43 #[.bool false,.slice none 0 0];simp only [World.size_alloc] at this;exact this
 have hLa1:=hLa.below hB1;have hLb1:=hLb.below hB1;have HB:=Za gB;clear gB hc1 hf1;go_wp2_with fail;refine (Zrk _ _ _ _ _ _ _ _ _ _ _ (by exact hLa1) (by exact hLb1) hn hm).mono ?_;rintro e w2 ⟨hb2,neg2,A2,n2,c2,code2,rfl,hR2⟩;have hB2 : Below w.heap.size w w2:=hB1.trans (hb2.mono hB1.size);have m7:=Zb hb2 g7;have m3:=m7.cell 0;have m4:=m7.cell 1;have m5:=m7.frozen 0;have m6:=m7.frozen 1
 simp at m3 m4
 have HM:=Za m7;clear m7;go_wp2_with fail
 have HZ : sg na za.natAbs + sg nb zb.natAbs = za + zb:=by
  have h1:=hza.out;have h2:=hzb.out;rw [Zi] at h1 h2;rw [h1,h2]
 refine bodyPost_ret (v:=.tuple #[.agg #[.bool neg2,.slice A2 n2 c2],.int .i64 code2]) (by simp [results,Tryz.results126,go_sem,m3,m4]) rfl ?_;exact ResW.box (HZ ▸ hR2) hB2 (by omega) HM.out
attribute [local go_sem] Zh Oper.semAt_some
def Zbd (ws : List Int) (a b : Nat -> Int) : Nat -> Int
 | 0=>0
 | i + 1=>Zbd ws a b i + (ws[i]?.getD 0) * (a i * b i)
def Zhc (v : Value) (z : Int) (w : World) : Prop:=∃ na A n c,v = .agg #[.bool na,.slice A n c] /\ Wd w na A n c z
def numT (v : Value) (z : Int) (w : World) : Prop:=∃ na A n c,v = .tuple #[.agg #[.bool na,.slice A n c],.int .i64 0] /\ Wd w na A n c z
theorem Zc1 {v : Value} {z : Int} {w w' : World} (hb : Below w.heap.size w w') (h : Zhc v z w) : Zhc v z w':=by
 obtain ⟨na,A,n,c,e,hf⟩:=h;exact ⟨na,A,n,c,e,hf.below hb⟩
theorem Zqu {v : Value} {z : Int} {w w' : World} (hb : Below w.heap.size w w') (h : numT v z w) : numT v z w':=by
 obtain ⟨na,A,n,c,e,hf⟩:=h;exact ⟨na,A,n,c,e,hf.below hb⟩
def Zct (x a b s : Int) (i : Nat) (v : Value) (w : World) : Prop:=
 if i = 2 then Zhc v x w else if i = 5 then v = .int .i64 a else if i = 6 then Zhc v a w else if i = 9 then v = .int .i64 b else if i = 10 then Zhc v b w
 else if i = 11 then Zhc v (a * b) w else if i = 12 then Zhc v (x * (a * b)) w else if i = 13 \/ i = 14 then numT v (s + x * (a * b)) w else if i = 15 then Zhc v (s + x * (a * b)) w else if i = 16 then v = .int .i64 0 else True
theorem Zj5 {x a b s : Int} {i : Nat} {v : Value} {w w' : World} (hb : Below w.heap.size w w') (h : Zct x a b s i v w) : Zct x a b s i v w':=by
 unfold Zct at h ⊢
 split at h
 ·rename_i e;rw [if_pos e];exact Zc1 hb h
 rename_i e;rw [if_neg e];clear e
 split at h
 ·rename_i e;rw [if_pos e];exact h
 rename_i e;rw [if_neg e];clear e
 split at h
 ·rename_i e;rw [if_pos e];exact Zc1 hb h
 rename_i e;rw [if_neg e];clear e
 split at h
 ·rename_i e;rw [if_pos e];exact h
 rename_i e;rw [if_neg e];clear e
 split at h
 ·rename_i e;rw [if_pos e];exact Zc1 hb h
 rename_i e;rw [if_neg e];clear e
 split at h
 ·rename_i e;rw [if_pos e];exact Zc1 hb h
 rename_i e;rw [if_neg e];clear e
 split at h
 ·rename_i e;rw [if_pos e];exact Zc1 hb h
 rename_i e;rw [if_neg e];clear e
 split at h
 ·rename_i e;rw [if_pos e];exact Zqu hb h
 rename_i e;rw [if_neg e];clear e
 split at h
 ·rename_i e;rw [if_pos e];exact Zc1 hb h
 rename_i e;rw [if_neg e];clear e
 split at h
 ·rename_i e;rw [if_pos e];exact h
 rename_i e;rw [if_neg e];trivial
def Zdw (B0 : Nat) (q : Rat) (i : Nat) (v : Value) (w : World) : Prop:=
 if i = 1 then Zhc v 1 w else Zae B0 q 2 3 4 5 6 5 i v w
theorem Zlc {B0 : Nat} {q : Rat} {i : Nat} {v : Value} {w w' : World} (hb : Below w.heap.size w w') (h : Zdw B0 q i v w) : Zdw B0 q i v w':=by
 unfold Zdw at h ⊢
 split at h
 ·rename_i e;rw [if_pos e];exact Zc1 hb h
 ·rename_i e;rw [if_neg e];exact Zgd hb h
theorem Znq {z : Int} (h : I64 z) : z.natAbs <= 9223372036854775808:=by unfold I64 at h;omega
theorem big6 : 9223372036854775808 * (9223372036854775808 * 9223372036854775808) * 1000 < pw 4096:=
 Nat.lt_of_lt_of_le (show _ < pw 7 from by decide) (Zb9 (by decide))
theorem Zmh {a b : Int} (ha : I64 a) (hb : I64 b) : (a * b).natAbs <= 9223372036854775808 * 9223372036854775808:=by
 rw [Int.natAbs_mul];exact Nat.mul_le_mul (Znq ha) (Znq hb)
theorem Zjs {x a b : Int} (hx : I64 x) (ha : I64 a) (hb : I64 b) : (x * (a * b)).natAbs <= 9223372036854775808 * (9223372036854775808 * 9223372036854775808):=by
 rw [Int.natAbs_mul];exact Nat.mul_le_mul (Znq hx) (Zmh ha hb)
theorem Zuc {a b : Int} (ha : I64 a) (hb : I64 b) : (a * b).natAbs < pw 4096:=
 Nat.lt_of_le_of_lt (Zmh ha hb) (Nat.lt_trans (by decide) big6)
theorem Zpo {x a b : Int} (hx : I64 x) (ha : I64 a) (hb : I64 b) : (x * (a * b)).natAbs < pw 4096:=
 Nat.lt_of_le_of_lt (Zjs hx ha hb) (Nat.lt_trans (by decide) big6)
theorem Zd6 {l : List Int} (h : ∀ x ∈ l,I64 x) (i : Nat) : I64 (l[i]?.getD 0):=by
 rcases Nat.lt_or_ge i l.length with h1 | h1
 ·rw [List.getElem?_eq_getElem h1];exact h _ (List.getElem_mem _)
 ·rw [List.getElem?_eq_none h1];unfold I64;decide
theorem Zml {ws : List Int} {a b : Nat -> Int} (hw : ∀ x ∈ ws,I64 x) : ∀ (i : Nat),(∀ j,j < i -> I64 (a j) /\ I64 (b j)) -> (Zbd ws a b i).natAbs <= 9223372036854775808 * (9223372036854775808 * 9223372036854775808) * i
 | 0,_=>by simp [Zbd]
 | i + 1,h=>by
  have h1:=Zml hw i (fun j hj=>h j (by omega));have h2:=Zjs (Zd6 hw i) (h i (by omega)).1 (h i (by omega)).2;have h3:=Int.natAbs_add_le (Zbd ws a b i) ((ws[i]?.getD 0) * (a i * b i));rw [Nat.mul_add,Nat.mul_one];show (Zbd ws a b i + (ws[i]?.getD 0) * (a i * b i)).natAbs <= _;exact Nat.le_trans h3 (Nat.add_le_add h1 h2)
theorem Zra {ws : List Int} {a b : Nat -> Int} (hw : ∀ x ∈ ws,I64 x) {i : Nat} (hi : i <= 1000) (h : ∀ j,j < i -> I64 (a j) /\ I64 (b j)) : (Zbd ws a b i).natAbs < pw 4096:=
 Nat.lt_of_le_of_lt (Zml hw i h) (Nat.lt_of_le_of_lt (Nat.mul_le_mul_left _ hi) big6)
theorem Wd.same {w : World} {na : Bool} {A : Option Addr} {n c : Nat} {y z : Int} (h : Wd w na A n c y) (e : y = z) : Wd w na A n c z:=e ▸ h
theorem Zf1 (z : Int) : Rat.divInt z 1 = (z : Rat):=by
 have h:=Rat.num_divInt_den ((z : Int) : Rat);rw [Rat.num_intCast,Rat.den_intCast] at h;exact h
theorem dot2 {x a b s : Int} {v : Value} {w : World} (h : Zct x a b s 2 v w) : Zhc v x w:=h
theorem dot5 {x a b s : Int} {v : Value} {w : World} (h : Zct x a b s 5 v w) : v = .int .i64 a:=h
theorem dot6 {x a b s : Int} {v : Value} {w : World} (h : Zct x a b s 6 v w) : Zhc v a w:=h
theorem dot9 {x a b s : Int} {v : Value} {w : World} (h : Zct x a b s 9 v w) : v = .int .i64 b:=h
theorem Zro {x a b s : Int} {v : Value} {w : World} (h : Zct x a b s 10 v w) : Zhc v b w:=h
theorem Zrf {x a b s : Int} {v : Value} {w : World} (h : Zct x a b s 11 v w) : Zhc v (a * b) w:=h
theorem Zrc {x a b s : Int} {v : Value} {w : World} (h : Zct x a b s 12 v w) : Zhc v (x * (a * b)) w:=h
theorem Zrg {x a b s : Int} {v : Value} {w : World} (h : Zct x a b s 13 v w) : numT v (s + x * (a * b)) w:=h
theorem dot14 {x a b s : Int} {v : Value} {w : World} (h : Zct x a b s 14 v w) : numT v (s + x * (a * b)) w:=h
theorem dot15 {x a b s : Int} {v : Value} {w : World} (h : Zct x a b s 15 v w) : Zhc v (s + x * (a * b)) w:=h
theorem dot16 {x a b s : Int} {v : Value} {w : World} (h : Zct x a b s 16 v w) : v = .int .i64 0:=h
theorem end1 {B0 : Nat} {q : Rat} {v : Value} {w : World} (h : Zdw B0 q 1 v w) : Zhc v 1 w:=h
theorem Zup (Fa Fb : FuncId) (v0 v1 u0 u1 : Value) (A : Option Addr) (n c : Nat) (ws : List Int) (a b : Nat -> Int) (w : World) (h : LimI w A n c ws) (hn : n <= 900)
    (ha : ∀ i,i < n -> I64 (a i)) (hb : ∀ i,i < n -> I64 (b i))
    (hca : ∀ (x : Value) (W : World),(callFunc Fa #[x,v0,v1]).run Tryz.prog W = .ok (.enter Fa #[x,v0,v1]) W)
    (hcb : ∀ (x : Value) (W : World),(callFunc Fb #[x,u0,u1]).run Tryz.prog W = .ok (.enter Fb #[x,u0,u1]) W)
    (hA : ∀ (W : World) (i : Nat),Below w.heap.size w W -> i < n -> Calls Tryz.prog Fa #[.int .i64 i,v0,v1] W fun e W'=>e = .returned (.int .i64 (a i)) /\ Below W.heap.size W W')
    (hB : ∀ (W : World) (i : Nat),Below w.heap.size w W -> i < n -> Calls Tryz.prog Fb #[.int .i64 i,u0,u1] W fun e W'=>e = .returned (.int .i64 (b i)) /\ Below W.heap.size W W') :
    Calls Tryz.prog 115 #[.slice A n c,.func (.func Fa) #[] #[v0,v1],.func (.func Fb) #[] #[u0,u1]] w (Zjk w ((Zbd ws a b n : Int) : Rat)):=by
 have hmx : Tryz.prog.follows .mixedOrders = true:=by kernel_rfl
 have hwsl:=h.1;have hnc:=h.2.1;have hcm:=h.2.2.1;unfold maxLen at hcm;have hws:=Za h.2.2.2.1;have hg:=Za h.2.2.2.2;replace hA:=Za hA;replace hB:=Za hB;have haa:=Za ha;have hbb:=Za hb;clear h ha hb;obtain ⟨W0,hW0,hB0,⟨q0,q1⟩,s0⟩:=Zi6 w 45 #[.bool false,.slice none 0 0,.bool false,.slice none 0 0] 43 #[.bool false,.slice none 0 0];obtain ⟨gr,hgr'⟩ : ∃ g,w.heap.size = g:=⟨_,rfl⟩;rw [hgr'] at q0 q1;obtain ⟨gs,hgs'⟩ : ∃ g,gr + 1 = g:=⟨_,rfl⟩;rw [hgs'] at q1
 have hgr : w.heap.size <= gr:=by omega
 have hgs : w.heap.size <= gs:=by omega
 have hgrs : gr ≠ gs:=by omega
 have hz0 : Wd W0 false none 0 0 0:=Wd.zero _;go_enter Tryz.func115,Tryz.ntmps115;go_wp2_with fail;(try rw [hW0]);(try rw [hgr']);(try rw [hgs']);replace hgr':=Za hgr';replace hgs':=Za hgs';clear hW0 s0
 go_loopw [14] (fun iv wr=>∃ (i : Nat) (sn : Bool) (sA : Option Addr) (sk sc : Nat),i <= n /\ iv = .int .i64 i /\ Wd wr sn sA sk sc (Zbd ws a b i) /\ Blk wr gs 43 #[.bool sn,.slice sA sk sc] /\ Blk wr gr 45 #[.bool false,.slice none 0 0,.bool false,.slice none 0 0] /\ Below w.heap.size w wr) (fun iv _=>n - (intOf iv).toNat)
 case atStart=>exact ⟨0,false,none,0,0,Nat.zero_le _,rfl,hz0,q1,q0,hB0⟩
 case round =>
  clear q0 q1 hB0 hz0;obtain ⟨i,sn,sA,sk,sc,hik,rfl,hs,qs,qr,hBp⟩:=hrel;obtain ⟨s0,s1,s2,s3⟩:=qs.two;replace hs:=Za hs;replace qs:=Za qs;replace qr:=Za qr
  by_cases hin : i < n
  case neg =>
   obtain rfl : n = i:=by omega
   have htk : decide ((n : Int) < (n : Int)) = false:=by simp
   generalize Zbd ws a b n = D at *
   go_wp2_with fail;have hSv2 : Hid (∀ wx,Below wr.heap.size wr wx -> wx.cell? ⟨gs,0,none⟩ = some (.bool sn) /\ wx.cell? ⟨gs,1,none⟩ = some (.slice sA sk sc)):=Za (fun wx hbx=>⟨Zc hbx s0,Zc hbx s1⟩);have hr2 : Below wr.heap.size wr wr.drew:=Zf (Below.refl _ _) 1;refine wp_heldS [] hmx hSv2 hr2 (fun hxs2=>?_);refine Zif 1 [0] rfl (by kernel_rfl) (hSv2.out _ hr2) ?_
   (refine tk1 (v:=?_) rfl (Or.inl ⟨by kernel_rfl,?_⟩) ?_;rotate_left;(· intro W2 hSw;(try dsimp only at hSw);go_simp;try with_reducible rfl);try simp only [Act.put,Zf0,Zfg,Zfv,putG_a,putG_s,putG_z])
   refine tk0 ?_;refine Zbl [(1,39),(2,40),(3,37),(4,41),(6,10)] (fun i=>match i with | 3=>[5] | _=>[]) [(1,39),(2,40),(3,37),(5,42),(4,41),(6,10)] (Zdw wr.heap.size (D : Rat)) 2 (by kernel_rfl) (fun _ _ _ _ _ hb h=>Zlc hb h) (fun wx h=>hSv2.out _ (hr2.trans (h.mono hr2.size))) ?hop2 ?hfin2
   case hop2 =>
    intro p hp;simp only [List.mem_cons,List.not_mem_nil,or_false] at hp;simp only [List.map_cons,List.map_nil,Zav,Act.put,Zf0,Zfg,Zfv]
    rcases hp with rfl | rfl | rfl | rfl | rfl
    ·intro ν wx hb hP
     refine Zn (i:=1) rfl (fun K hK=>?_);go_simp;refine (Zaz 1 wx (by decide) (by decide)).mono ?_;rintro e w5 ⟨hb5,na5,A5,k5,c5,rfl,hf5⟩;exact hK.out _ _ ⟨_,rfl,(by simp only [Zdw,Zae];exact ⟨_,_,_,_,rfl,hf5⟩),hb5,trivial⟩
    ·intro ν wx hb hP
     have hbx:=hr2.trans (hb.mono hr2.size);have h3:=end1 (hP (1,39) (by simp) (by kernel_rfl));obtain ⟨na3,A3,k3,c3,hν3,hf3⟩:=h3;rw [hν3];obtain rfl : na3 = false:=hf3.1;refine Zn (i:=2) rfl (fun K hK=>?_);go_simp;refine (Zcx sn sA A3 sk sc k3 c3 D 1 wx (hs.out.below hbx) hf3 (by decide)).mono ?_;rintro e w5 ⟨hb5,na5,A5,k5,c5,nb5,B5,m5,d5,rfl,hf5⟩;rw [Zf1] at hf5;exact hK.out _ _ ⟨_,rfl,(by simp only [Zdw,Zae];exact ⟨_,_,_,_,_,_,_,_,rfl,hf5⟩),hb5,trivial⟩
    ·intro ν wx hb hP
     have h0:=hP (2,40) (by simp) (by kernel_rfl);simp only [Zdw,Zae] at h0;obtain ⟨na5,A5,k5,c5,nb5,B5,m5,d5,hν,hf5⟩:=h0;rw [hν];refine Zn (i:=3) rfl (fun K hK=>?_);go_simp;refine hK.out _ _ ⟨_,rfl,(by simp only [Zdw,Zae];exact ⟨_,_,_,_,_,_,_,_,rfl,hf5⟩),Below.refl _ _,?_⟩;exact ⟨_,.int .i64 0,rfl,Or.inl ⟨by kernel_rfl,fun W2 _=>by go_simp⟩,by simp [Zdw,Zae],trivial⟩
    ·intro ν wx hb hP
     have h0:=hP (3,37) (by simp) (by kernel_rfl);simp only [Zdw,Zae] at h0;obtain ⟨na5,A5,k5,c5,nb5,B5,m5,d5,hν,hf5⟩:=h0;rw [hν];refine Zn (i:=4) rfl (fun K hK=>?_);go_simp;exact hK.out _ _ ⟨_,rfl,(by simp only [Zdw,Zae];exact ⟨_,_,_,_,_,_,_,_,rfl,hf5⟩),Below.refl _ _,trivial⟩
    ·intro ν wx hb hP
     refine Zn (i:=6) rfl (fun K hK=>?_);go_simp;exact hK.out _ _ ⟨_,rfl,(by simp only [Zdw,Zae];exact ⟨_,rfl,(hr2.trans (hb.mono hr2.size)).size,Blk.new _ _ _⟩),(Below.refl _ _).alloc (Nat.le_refl _) _,trivial⟩
   case hfin2 =>
    intro ν wx hb hP;have h0:=end1 (hP (1,39) (by simp));have h1:=hP (2,40) (by simp);have h2:=hP (3,37) (by simp);have h3:=hP (5,42) (by simp);have h4:=hP (4,41) (by simp);have h5:=hP (6,10) (by simp);simp only [Zdw,Zae] at h1 h2 h4 h5;obtain ⟨_,_,_,_,h0,-⟩:=h0;obtain ⟨_,_,_,_,_,_,_,_,h1,-⟩:=h1;obtain ⟨_,_,_,_,_,_,_,_,h2,-⟩:=h2;obtain ⟨fn,fA,fk,fc,fm,fB,fj,fd,h4,hff⟩:=h4;obtain ⟨gv,h5,kv,qv⟩:=h5;simp only [List.map_cons,List.map_nil,Zav,Act.put,Zf0,Zfg,Zfv];rw [h0,h1,h2,(show ν 42 = Value.int .i64 0 by simpa [Zdw,Zae] using h3),h4,h5];clear h0 h1 h2 h3 h4 h5 hP ν;have hbx:=hr2.trans (hb.mono hr2.size);have qr6:=Zb hbx qr.out
    have hgrv : gr ≠ gv:=by have:=qr.out.lt;omega
    obtain ⟨V,hV,hBV,q6,kV⟩:=Zad (B:=gv) fn fA fk fc fm fB fj fd (Below.refl gv wx) (Nat.le_refl _) qv
    have hBV' : Below w.heap.size w V:=by
     rw [<- hV];have hgv : w.heap.size <= gv:=Nat.le_trans hBp.size kv;exact ((((hBp.trans (hbx.mono hBp.size)).setCell (p:=⟨gv,0,none⟩) hgv _).setCell (p:=⟨gv,1,none⟩) hgv _).setCell (p:=⟨gv,2,none⟩) hgv _).setCell (p:=⟨gv,3,none⟩) hgv _
    have hbX : Hid (Below wr.heap.size wr V):=Za (by rw [<- hV];exact (((hbx.setCell (p:=⟨gv,0,none⟩) kv _).setCell (p:=⟨gv,1,none⟩) kv _).setCell (p:=⟨gv,2,none⟩) kv _).setCell (p:=⟨gv,3,none⟩) kv _);have hf7:=Za (Fr.keep hff kV.1);have qr7:=kV.2.1 gr _ _ hgrv qr6;obtain ⟨y0,y1,y2,y3,y4,y5,y6,y7⟩:=qv.four;replace q6:=Za q6;replace qr7:=Za qr7;replace hBV':=Za hBV';clear hff kV qr6 hBV qv;refine Ze (i:=7) rfl (by kernel_rfl) (fun K hK=>?_);go_simp;(try rw [hV]);refine hK.out _ _ (fun _=>hSv2.out _ (hbX.out)) ?_;clear hK K
    try simp only [Act.put,Zf0,Zfg,Zfv]
    refine Zfh 1 [8] rfl (by kernel_rfl) (hSv2.out _ hbX.out) ?_
    (refine tk1 (v:=?_) rfl (Or.inl ⟨by kernel_rfl,?_⟩) ?_;rotate_left;(· intro W2 _;go_simp;try with_reducible rfl);try simp only [Act.put,Zf0,Zfg,Zfv,putG_a,putG_s,putG_z])
    refine tk0 ?_;refine Zk (by kernel_rfl) ?_ _;refine OnlyNormal.normal ?_;clear hV y0 y1 y2 y3 y4 y5 y6 y7 hbx hb hr2 hSv2 hxs2 s0 s1 hbX;obtain ⟨z0,z1,z2,z3,-⟩:=q6.out.four;obtain ⟨r0,r1,r2,r3,r4,r5,r6,r7⟩:=qr7.out.four;go_wp2_with fail;obtain ⟨X,hX,hBX,q8,st⟩:=Zad fn fA fk fc fm fB fj fd hBV'.out hgr qr7.out;(try rw [hX]);obtain ⟨x0,x1,x2,x3,-⟩:=q8.four;refine bodyPost_ret (v:=.agg #[.bool fn,.slice fA fk fc,.bool fm,.slice fB fj fd]) (by simp [results,Tryz.results115,go_sem,x0,x1,x2,x3]) rfl ?_;exact ⟨hBX,_,_,_,_,_,_,_,_,rfl,Fr.keep hf7.out st.1⟩
  have htk : decide ((i : Int) < (n : Int)) = true:=decide_eq_true (by omega);obtain ⟨g,o,rfl,hcc⟩:=hg.out (by omega);have ci:=(hBp.cell (Zp (hcc i hin))).trans (hcc i hin);clear hcc;have hx:=Zd6 hws.out i;have ha:=haa.out i hin;have hb0:=hbb.out i hin;have hsum : (Zbd ws a b i + (ws[i]?.getD 0) * (a i * b i)).natAbs < pw 4096:=Zra (i:=i + 1) hws.out (by omega) (fun j hj=>⟨haa.out j (by omega),hbb.out j (by omega)⟩);have hnext : Zbd ws a b (i + 1) = Zbd ws a b i + (ws[i]?.getD 0) * (a i * b i):=rfl;rw [<- hnext] at hsum;replace hnext:=Za hnext;obtain ⟨x,hxe⟩ : ∃ x,ws[i]?.getD 0 = x:=⟨_,rfl⟩;obtain ⟨a0,hae⟩ : ∃ x,a i = x:=⟨_,rfl⟩;obtain ⟨b0,hbe⟩ : ∃ x,b i = x:=⟨_,rfl⟩;obtain ⟨s,hse⟩ : ∃ x,Zbd ws a b i = x:=⟨_,rfl⟩;replace hnext:=hnext.out;rw [hxe,hae,hbe,hse] at hnext;rw [hnext] at hsum;rw [hxe] at hx ci;rw [hae] at ha;rw [hbe] at hb0;rw [hse] at hs;replace hsum:=Za hsum;replace hnext:=Za hnext;replace hae:=Za hae;replace hbe:=Za hbe;clear hxe hse;go_wp2_with fail;have hSv1 : Hid (∀ wx,Below wr.heap.size wr wx -> wx.cell? ⟨g,o + i,none⟩ = some (.int .i64 x) /\ wx.cell? ⟨gs,0,none⟩ = some (.bool sn) /\ wx.cell? ⟨gs,1,none⟩ = some (.slice sA sk sc)):=Za (fun wx hbx=>⟨Zc hbx ci,Zc hbx s0,Zc hbx s1⟩);have hr1 : Below wr.heap.size wr wr.drew:=Zf (Below.refl _ _) 1;refine wp_heldS [17] hmx hSv1 hr1 (fun hxs1=>?_);refine Zif 1 [0] rfl (by kernel_rfl) (hSv1.out _ hr1) ?_
  (refine tk1 (v:=?_) rfl (Or.inl ⟨by kernel_rfl,?_⟩) ?_;rotate_left;(· intro W2 hSw;(try dsimp only at hSw);go_simp;try with_reducible rfl);try simp only [Act.put,Zf0,Zfg,Zfv,putG_a,putG_s,putG_z])
  refine tk0 ?_;refine Zfh 5 [1,3,4,7,8] rfl (by kernel_rfl) (hSv1.out _ hr1) ?_
  iterate 5 (refine tk1 (v:=?_) rfl (Or.inl ⟨by kernel_rfl,?_⟩) ?_;rotate_left;(· intro W2 _;go_simp;try with_reducible rfl);try simp only [Act.put,Zf0,Zfg,Zfv,putG_a,putG_s,putG_z])
  refine tk0 ?_;refine Zbl [(2,22),(5,25),(6,26),(9,29),(10,30),(11,31),(12,32),(13,33),(14,19)] (fun i=>match i with | 14=>[15,16] | _=>[]) [(2,22),(5,25),(6,26),(9,29),(10,30),(11,31),(12,32),(13,33),(14,19),(15,34),(16,35)] (Zct x a0 b0 s) 1 (by kernel_rfl) (fun _ _ _ _ _ hb h=>Zj5 hb h) (fun wx h=>hSv1.out _ (hr1.trans (h.mono hr1.size))) ?hop1 ?hfin1
  case hop1 =>
   intro p hp;simp only [List.mem_cons,List.not_mem_nil,or_false] at hp;simp only [List.map_cons,List.map_nil,Zav,Act.put,Zf0,Zfg,Zfv]
   rcases hp with rfl | rfl | rfl | rfl | rfl | rfl | rfl | rfl | rfl
   ·intro ν wx hb hP
    have hbx:=hr1.trans (hb.mono hr1.size);refine Zn (i:=2) rfl (fun K hK=>?_);go_simp;refine (Zaz x wx hx.1 hx.2).mono ?_;rintro e w5 ⟨hb5,na5,A5,k5,c5,rfl,hf5⟩;exact hK.out _ _ ⟨_,rfl,(by simp only [Zct];exact ⟨_,_,_,_,rfl,hf5⟩),hb5,trivial⟩
   ·intro ν wx hb hP
    have hbx:=hr1.trans (hb.mono hr1.size);refine Zn (i:=5) rfl (fun K hK=>?_);go_simp;refine (hA.out wx i (hBp.trans (hbx.mono hBp.size)) hin).mono ?_;rintro e w5 ⟨rfl,hb5⟩;exact hK.out _ _ ⟨_,rfl,(show Value.int .i64 _ = Value.int .i64 _ from by rw [hae.out]),hb5,trivial⟩
   ·intro ν wx hb hP
    have hbx:=hr1.trans (hb.mono hr1.size);have h3:=hP (5,25) (by simp) (by kernel_rfl);replace h3:=dot5 h3;rw [h3];refine Zn (i:=6) rfl (fun K hK=>?_);go_simp;refine (Zaz a0 wx ha.1 ha.2).mono ?_;rintro e w5 ⟨hb5,na5,A5,k5,c5,rfl,hf5⟩;exact hK.out _ _ ⟨_,rfl,(by simp only [Zct];exact ⟨_,_,_,_,rfl,hf5⟩),hb5,trivial⟩
   ·intro ν wx hb hP
    have hbx:=hr1.trans (hb.mono hr1.size);refine Zn (i:=9) rfl (fun K hK=>?_);go_simp;refine (hB.out wx i (hBp.trans (hbx.mono hBp.size)) hin).mono ?_;rintro e w5 ⟨rfl,hb5⟩;exact hK.out _ _ ⟨_,rfl,(show Value.int .i64 _ = Value.int .i64 _ from by rw [hbe.out]),hb5,trivial⟩
   ·intro ν wx hb hP
    have hbx:=hr1.trans (hb.mono hr1.size);have h3:=hP (9,29) (by simp) (by kernel_rfl);replace h3:=dot9 h3;rw [h3];refine Zn (i:=10) rfl (fun K hK=>?_);go_simp;refine (Zaz b0 wx hb0.1 hb0.2).mono ?_;rintro e w5 ⟨hb5,na5,A5,k5,c5,rfl,hf5⟩;exact hK.out _ _ ⟨_,rfl,(by simp only [Zct];exact ⟨_,_,_,_,rfl,hf5⟩),hb5,trivial⟩
   ·intro ν wx hb hP
    have hbx:=hr1.trans (hb.mono hr1.size);have h3:=hP (6,26) (by simp) (by kernel_rfl);replace h3:=dot6 h3;obtain ⟨na3,A3,k3,c3,hν3,hf3⟩:=h3;rw [hν3];have h4:=hP (10,30) (by simp) (by kernel_rfl);replace h4:=Zro h4;obtain ⟨na4,A4,k4,c4,hν4,hf4⟩:=h4;rw [hν4];refine Zn (i:=11) rfl (fun K hK=>?_);go_simp;refine (Zc0 na3 na4 A3 A4 k3 c3 k4 c4 _ _ wx hf3 hf4 (Zuc ha hb0)).mono ?_;rintro e w5 ⟨hb5,na5,A5,k5,c5,rfl,hf5⟩;exact hK.out _ _ ⟨_,rfl,(by simp only [Zct];exact ⟨_,_,_,_,rfl,hf5⟩),hb5,trivial⟩
   ·intro ν wx hb hP
    have hbx:=hr1.trans (hb.mono hr1.size);have h3:=hP (2,22) (by simp) (by kernel_rfl);replace h3:=dot2 h3;obtain ⟨na3,A3,k3,c3,hν3,hf3⟩:=h3;rw [hν3];have h4:=hP (11,31) (by simp) (by kernel_rfl);replace h4:=Zrf h4;obtain ⟨na4,A4,k4,c4,hν4,hf4⟩:=h4;rw [hν4];refine Zn (i:=12) rfl (fun K hK=>?_);go_simp;refine (Zc0 na3 na4 A3 A4 k3 c3 k4 c4 _ _ wx hf3 hf4 (Zpo hx ha hb0)).mono ?_;rintro e w5 ⟨hb5,na5,A5,k5,c5,rfl,hf5⟩;exact hK.out _ _ ⟨_,rfl,(by simp only [Zct];exact ⟨_,_,_,_,rfl,hf5⟩),hb5,trivial⟩
   ·intro ν wx hb hP
    have hbx:=hr1.trans (hb.mono hr1.size);have h4:=hP (12,32) (by simp) (by kernel_rfl);replace h4:=Zrc h4;obtain ⟨na4,A4,k4,c4,hν4,hf4⟩:=h4;rw [hν4];refine Zn (i:=13) rfl (fun K hK=>?_);go_simp;refine (Zqv sn na4 sA A4 sk sc k4 c4 _ _ wx (hs.out.below hbx) hf4).mono ?_;rintro e w5 ⟨hb5,na5,A5,k5,c5,code,rfl,hR⟩
    rcases hR with ⟨_,rfl,hf5⟩ | ⟨hlt,_⟩
    ·exact hK.out _ _ ⟨_,rfl,(by simp only [Zct];exact ⟨_,_,_,_,rfl,hf5⟩),hb5,trivial⟩
    ·exact absurd hlt (Nat.not_le.2 hsum.out)
   ·intro ν wx hb hP
    have hbx:=hr1.trans (hb.mono hr1.size);have h3:=hP (13,33) (by simp) (by kernel_rfl);replace h3:=Zrg h3;obtain ⟨na3,A3,k3,c3,hν3,hf3⟩:=h3;rw [hν3];refine Zn (i:=14) rfl (fun K hK=>?_);go_simp;refine hK.out _ _ ⟨_,rfl,(by simp only [Zct];exact ⟨_,_,_,_,rfl,hf3⟩),Below.refl _ _,?_⟩;refine ⟨_,.agg #[.bool na3,.slice A3 k3 c3],rfl,Or.inl ⟨by kernel_rfl,fun W2 _=>by go_simp⟩,(by simp only [Zct];exact ⟨_,_,_,_,rfl,hf3⟩),?_⟩;exact ⟨_,.int .i64 0,rfl,Or.inl ⟨by kernel_rfl,fun W2 _=>by go_simp⟩,rfl,trivial⟩
  case hfin1 =>
   intro ν wx hb hP;have h2:=dot2 (hP (2,22) (by simp));have h5:=dot5 (hP (5,25) (by simp));have h6:=dot6 (hP (6,26) (by simp));have h9:=dot9 (hP (9,29) (by simp));have h10:=Zro (hP (10,30) (by simp));have h11:=Zrf (hP (11,31) (by simp));have h12:=Zrc (hP (12,32) (by simp));have h13:=Zrg (hP (13,33) (by simp));have h14:=dot14 (hP (14,19) (by simp));have h15:=dot15 (hP (15,34) (by simp));have h16:=dot16 (hP (16,35) (by simp));obtain ⟨_,_,_,_,h2,-⟩:=h2;obtain ⟨_,_,_,_,h6,-⟩:=h6;obtain ⟨_,_,_,_,h10,-⟩:=h10;obtain ⟨_,_,_,_,h11,-⟩:=h11;obtain ⟨_,_,_,_,h12,-⟩:=h12;obtain ⟨_,_,_,_,h13,-⟩:=h13;obtain ⟨_,_,_,_,h14,-⟩:=h14;obtain ⟨n5,A5,k5,c5,h15,hf5⟩:=h15;simp only [List.map_cons,List.map_nil,Zav,Act.put,Zf0,Zfg,Zfv];rw [h2,h5,h6,h9,h10,h11,h12,h13,h14,h15,h16];clear h2 h5 h6 h9 h10 h11 h12 h13 h14 h15 h16 hP ν;have hbx:=hr1.trans (hb.mono hr1.size);have qs6:=Zb hbx qs.out;have qr6:=Zb hbx qr.out;obtain ⟨W6,hW6,hB6,q6,kW6⟩:=Zax (B:=gs) n5 A5 k5 c5 (Below.refl gs wx) (Nat.le_refl _) qs6
   have hB7 : Below w.heap.size w W6:=by
    rw [<- hW6];exact ((hBp.trans (hbx.mono hBp.size)).setCell (p:=⟨gs,0,none⟩) hgs _).setCell (p:=⟨gs,1,none⟩) hgs _
   have hf7:=Za (kW6.1 _ _ _ _ _ hf5);have qr7:=kW6.2.1 gr _ _ hgrs qr6;obtain ⟨y0,y1,y2,y3⟩:=qs6.two;replace q6:=Za q6;replace qr7:=Za qr7;replace hB7:=Za hB7;clear hf5 kW6 qs6 qr6 hB6;refine Zu (i:=17) rfl (by kernel_rfl) (by kernel_rfl) (fun K hK=>?_);go_simp;(try rw [hW6]);refine hK.out _ _ ?_;clear hK K
   try simp only [Act.put,Zf0,Zfg,Zfv]
   refine Zk (by kernel_rfl) ?_ _;refine OnlyNormal.normal ?_;clear hW6 y0 y1 y2 y3 hbx hb hr1 hSv1 hxs1 ci s0 s1;go_wp2_with fail
   go_roundw
   case rel=>exact ⟨i + 1,n5,A5,k5,c5,by omega,by go_num,hf7.out.same hnext.out.symm,q6.out,qr7.out,hB7.out⟩
   case measure=>simp [intOf];omega
theorem Zt7 (Fa Fb : FuncId) (v0 v1 u0 : Value) (A : Option Addr) (n c : Nat) (ws : List Int) (a b : Nat -> Int) (w : World) (h : LimI w A n c ws) (hn : n <= 900)
    (ha : ∀ i,i < n -> I64 (a i)) (hb : ∀ i,i < n -> I64 (b i))
    (hca : ∀ (x : Value) (W : World),(callFunc Fa #[x,v0,v1]).run Tryz.prog W = .ok (.enter Fa #[x,v0,v1]) W)
    (hcb : ∀ (x : Value) (W : World),(callFunc Fb #[x,u0]).run Tryz.prog W = .ok (.enter Fb #[x,u0]) W)
    (hA : ∀ (W : World) (i : Nat),Below w.heap.size w W -> i < n -> Calls Tryz.prog Fa #[.int .i64 i,v0,v1] W fun e W'=>e = .returned (.int .i64 (a i)) /\ Below W.heap.size W W')
    (hB : ∀ (W : World) (i : Nat),Below w.heap.size w W -> i < n -> Calls Tryz.prog Fb #[.int .i64 i,u0] W fun e W'=>e = .returned (.int .i64 (b i)) /\ Below W.heap.size W W') :
    Calls Tryz.prog 115 #[.slice A n c,.func (.func Fa) #[] #[v0,v1],.func (.func Fb) #[] #[u0]] w (Zjk w ((Zbd ws a b n : Int) : Rat)):=by
 have hmx : Tryz.prog.follows .mixedOrders = true:=by kernel_rfl
 have hwsl:=h.1;have hnc:=h.2.1;have hcm:=h.2.2.1;unfold maxLen at hcm;have hws:=Za h.2.2.2.1;have hg:=Za h.2.2.2.2;replace hA:=Za hA;replace hB:=Za hB;have haa:=Za ha;have hbb:=Za hb;clear h ha hb;obtain ⟨W0,hW0,hB0,⟨q0,q1⟩,s0⟩:=Zi6 w 45 #[.bool false,.slice none 0 0,.bool false,.slice none 0 0] 43 #[.bool false,.slice none 0 0];obtain ⟨gr,hgr'⟩ : ∃ g,w.heap.size = g:=⟨_,rfl⟩;rw [hgr'] at q0 q1;obtain ⟨gs,hgs'⟩ : ∃ g,gr + 1 = g:=⟨_,rfl⟩;rw [hgs'] at q1
 have hgr : w.heap.size <= gr:=by omega
 have hgs : w.heap.size <= gs:=by omega
 have hgrs : gr ≠ gs:=by omega
 have hz0 : Wd W0 false none 0 0 0:=Wd.zero _;go_enter Tryz.func115,Tryz.ntmps115;go_wp2_with fail;(try rw [hW0]);(try rw [hgr']);(try rw [hgs']);replace hgr':=Za hgr';replace hgs':=Za hgs';clear hW0 s0
 go_loopw [14] (fun iv wr=>∃ (i : Nat) (sn : Bool) (sA : Option Addr) (sk sc : Nat),i <= n /\ iv = .int .i64 i /\ Wd wr sn sA sk sc (Zbd ws a b i) /\ Blk wr gs 43 #[.bool sn,.slice sA sk sc] /\ Blk wr gr 45 #[.bool false,.slice none 0 0,.bool false,.slice none 0 0] /\ Below w.heap.size w wr) (fun iv _=>n - (intOf iv).toNat)
 case atStart=>exact ⟨0,false,none,0,0,Nat.zero_le _,rfl,hz0,q1,q0,hB0⟩
 case round =>
  clear q0 q1 hB0 hz0;obtain ⟨i,sn,sA,sk,sc,hik,rfl,hs,qs,qr,hBp⟩:=hrel;obtain ⟨s0,s1,s2,s3⟩:=qs.two;replace hs:=Za hs;replace qs:=Za qs;replace qr:=Za qr
  by_cases hin : i < n
  case neg =>
   obtain rfl : n = i:=by omega
   have htk : decide ((n : Int) < (n : Int)) = false:=by simp
   generalize Zbd ws a b n = D at *
   go_wp2_with fail;have hSv2 : Hid (∀ wx,Below wr.heap.size wr wx -> wx.cell? ⟨gs,0,none⟩ = some (.bool sn) /\ wx.cell? ⟨gs,1,none⟩ = some (.slice sA sk sc)):=Za (fun wx hbx=>⟨Zc hbx s0,Zc hbx s1⟩);have hr2 : Below wr.heap.size wr wr.drew:=Zf (Below.refl _ _) 1;refine wp_heldS [] hmx hSv2 hr2 (fun hxs2=>?_);refine Zif 1 [0] rfl (by kernel_rfl) (hSv2.out _ hr2) ?_
   (refine tk1 (v:=?_) rfl (Or.inl ⟨by kernel_rfl,?_⟩) ?_;rotate_left;(· intro W2 hSw;(try dsimp only at hSw);go_simp;try with_reducible rfl);try simp only [Act.put,Zf0,Zfg,Zfv,putG_a,putG_s,putG_z])
   refine tk0 ?_;refine Zbl [(1,39),(2,40),(3,37),(4,41),(6,10)] (fun i=>match i with | 3=>[5] | _=>[]) [(1,39),(2,40),(3,37),(5,42),(4,41),(6,10)] (Zdw wr.heap.size (D : Rat)) 2 (by kernel_rfl) (fun _ _ _ _ _ hb h=>Zlc hb h) (fun wx h=>hSv2.out _ (hr2.trans (h.mono hr2.size))) ?hop2 ?hfin2
   case hop2 =>
    intro p hp;simp only [List.mem_cons,List.not_mem_nil,or_false] at hp;simp only [List.map_cons,List.map_nil,Zav,Act.put,Zf0,Zfg,Zfv]
    rcases hp with rfl | rfl | rfl | rfl | rfl
    ·intro ν wx hb hP
     refine Zn (i:=1) rfl (fun K hK=>?_);go_simp;refine (Zaz 1 wx (by decide) (by decide)).mono ?_;rintro e w5 ⟨hb5,na5,A5,k5,c5,rfl,hf5⟩;exact hK.out _ _ ⟨_,rfl,(by simp only [Zdw,Zae];exact ⟨_,_,_,_,rfl,hf5⟩),hb5,trivial⟩
    ·intro ν wx hb hP
     have hbx:=hr2.trans (hb.mono hr2.size);have h3:=end1 (hP (1,39) (by simp) (by kernel_rfl));obtain ⟨na3,A3,k3,c3,hν3,hf3⟩:=h3;rw [hν3];obtain rfl : na3 = false:=hf3.1;refine Zn (i:=2) rfl (fun K hK=>?_);go_simp;refine (Zcx sn sA A3 sk sc k3 c3 D 1 wx (hs.out.below hbx) hf3 (by decide)).mono ?_;rintro e w5 ⟨hb5,na5,A5,k5,c5,nb5,B5,m5,d5,rfl,hf5⟩;rw [Zf1] at hf5;exact hK.out _ _ ⟨_,rfl,(by simp only [Zdw,Zae];exact ⟨_,_,_,_,_,_,_,_,rfl,hf5⟩),hb5,trivial⟩
    ·intro ν wx hb hP
     have h0:=hP (2,40) (by simp) (by kernel_rfl);simp only [Zdw,Zae] at h0;obtain ⟨na5,A5,k5,c5,nb5,B5,m5,d5,hν,hf5⟩:=h0;rw [hν];refine Zn (i:=3) rfl (fun K hK=>?_);go_simp;refine hK.out _ _ ⟨_,rfl,(by simp only [Zdw,Zae];exact ⟨_,_,_,_,_,_,_,_,rfl,hf5⟩),Below.refl _ _,?_⟩;exact ⟨_,.int .i64 0,rfl,Or.inl ⟨by kernel_rfl,fun W2 _=>by go_simp⟩,by simp [Zdw,Zae],trivial⟩
    ·intro ν wx hb hP
     have h0:=hP (3,37) (by simp) (by kernel_rfl);simp only [Zdw,Zae] at h0;obtain ⟨na5,A5,k5,c5,nb5,B5,m5,d5,hν,hf5⟩:=h0;rw [hν];refine Zn (i:=4) rfl (fun K hK=>?_);go_simp;exact hK.out _ _ ⟨_,rfl,(by simp only [Zdw,Zae];exact ⟨_,_,_,_,_,_,_,_,rfl,hf5⟩),Below.refl _ _,trivial⟩
    ·intro ν wx hb hP
     refine Zn (i:=6) rfl (fun K hK=>?_);go_simp;exact hK.out _ _ ⟨_,rfl,(by simp only [Zdw,Zae];exact ⟨_,rfl,(hr2.trans (hb.mono hr2.size)).size,Blk.new _ _ _⟩),(Below.refl _ _).alloc (Nat.le_refl _) _,trivial⟩
   case hfin2 =>
    intro ν wx hb hP;have h0:=end1 (hP (1,39) (by simp));have h1:=hP (2,40) (by simp);have h2:=hP (3,37) (by simp);have h3:=hP (5,42) (by simp);have h4:=hP (4,41) (by simp);have h5:=hP (6,10) (by simp);simp only [Zdw,Zae] at h1 h2 h4 h5;obtain ⟨_,_,_,_,h0,-⟩:=h0;obtain ⟨_,_,_,_,_,_,_,_,h1,-⟩:=h1;obtain ⟨_,_,_,_,_,_,_,_,h2,-⟩:=h2;obtain ⟨fn,fA,fk,fc,fm,fB,fj,fd,h4,hff⟩:=h4;obtain ⟨gv,h5,kv,qv⟩:=h5;simp only [List.map_cons,List.map_nil,Zav,Act.put,Zf0,Zfg,Zfv];rw [h0,h1,h2,(show ν 42 = Value.int .i64 0 by simpa [Zdw,Zae] using h3),h4,h5];clear h0 h1 h2 h3 h4 h5 hP ν;have hbx:=hr2.trans (hb.mono hr2.size);have qr6:=Zb hbx qr.out
    have hgrv : gr ≠ gv:=by have:=qr.out.lt;omega
    obtain ⟨V,hV,hBV,q6,kV⟩:=Zad (B:=gv) fn fA fk fc fm fB fj fd (Below.refl gv wx) (Nat.le_refl _) qv
    have hBV' : Below w.heap.size w V:=by
     rw [<- hV];have hgv : w.heap.size <= gv:=Nat.le_trans hBp.size kv;exact ((((hBp.trans (hbx.mono hBp.size)).setCell (p:=⟨gv,0,none⟩) hgv _).setCell (p:=⟨gv,1,none⟩) hgv _).setCell (p:=⟨gv,2,none⟩) hgv _).setCell (p:=⟨gv,3,none⟩) hgv _
    have hbX : Hid (Below wr.heap.size wr V):=Za (by rw [<- hV];exact (((hbx.setCell (p:=⟨gv,0,none⟩) kv _).setCell (p:=⟨gv,1,none⟩) kv _).setCell (p:=⟨gv,2,none⟩) kv _).setCell (p:=⟨gv,3,none⟩) kv _);have hf7:=Za (Fr.keep hff kV.1);have qr7:=kV.2.1 gr _ _ hgrv qr6;obtain ⟨y0,y1,y2,y3,y4,y5,y6,y7⟩:=qv.four;replace q6:=Za q6;replace qr7:=Za qr7;replace hBV':=Za hBV';clear hff kV qr6 hBV qv;refine Ze (i:=7) rfl (by kernel_rfl) (fun K hK=>?_);go_simp;(try rw [hV]);refine hK.out _ _ (fun _=>hSv2.out _ (hbX.out)) ?_;clear hK K
    try simp only [Act.put,Zf0,Zfg,Zfv]
    refine Zfh 1 [8] rfl (by kernel_rfl) (hSv2.out _ hbX.out) ?_
    (refine tk1 (v:=?_) rfl (Or.inl ⟨by kernel_rfl,?_⟩) ?_;rotate_left;(· intro W2 _;go_simp;try with_reducible rfl);try simp only [Act.put,Zf0,Zfg,Zfv,putG_a,putG_s,putG_z])
    refine tk0 ?_;refine Zk (by kernel_rfl) ?_ _;refine OnlyNormal.normal ?_;clear hV y0 y1 y2 y3 y4 y5 y6 y7 hbx hb hr2 hSv2 hxs2 s0 s1 hbX;obtain ⟨z0,z1,z2,z3,-⟩:=q6.out.four;obtain ⟨r0,r1,r2,r3,r4,r5,r6,r7⟩:=qr7.out.four;go_wp2_with fail;obtain ⟨X,hX,hBX,q8,st⟩:=Zad fn fA fk fc fm fB fj fd hBV'.out hgr qr7.out;(try rw [hX]);obtain ⟨x0,x1,x2,x3,-⟩:=q8.four;refine bodyPost_ret (v:=.agg #[.bool fn,.slice fA fk fc,.bool fm,.slice fB fj fd]) (by simp [results,Tryz.results115,go_sem,x0,x1,x2,x3]) rfl ?_;exact ⟨hBX,_,_,_,_,_,_,_,_,rfl,Fr.keep hf7.out st.1⟩
  have htk : decide ((i : Int) < (n : Int)) = true:=decide_eq_true (by omega);obtain ⟨g,o,rfl,hcc⟩:=hg.out (by omega);have ci:=(hBp.cell (Zp (hcc i hin))).trans (hcc i hin);clear hcc;have hx:=Zd6 hws.out i;have ha:=haa.out i hin;have hb0:=hbb.out i hin;have hsum : (Zbd ws a b i + (ws[i]?.getD 0) * (a i * b i)).natAbs < pw 4096:=Zra (i:=i + 1) hws.out (by omega) (fun j hj=>⟨haa.out j (by omega),hbb.out j (by omega)⟩);have hnext : Zbd ws a b (i + 1) = Zbd ws a b i + (ws[i]?.getD 0) * (a i * b i):=rfl;rw [<- hnext] at hsum;replace hnext:=Za hnext;obtain ⟨x,hxe⟩ : ∃ x,ws[i]?.getD 0 = x:=⟨_,rfl⟩;obtain ⟨a0,hae⟩ : ∃ x,a i = x:=⟨_,rfl⟩;obtain ⟨b0,hbe⟩ : ∃ x,b i = x:=⟨_,rfl⟩;obtain ⟨s,hse⟩ : ∃ x,Zbd ws a b i = x:=⟨_,rfl⟩;replace hnext:=hnext.out;rw [hxe,hae,hbe,hse] at hnext;rw [hnext] at hsum;rw [hxe] at hx ci;rw [hae] at ha;rw [hbe] at hb0;rw [hse] at hs;replace hsum:=Za hsum;replace hnext:=Za hnext;replace hae:=Za hae;replace hbe:=Za hbe;clear hxe hse;go_wp2_with fail;have hSv1 : Hid (∀ wx,Below wr.heap.size wr wx -> wx.cell? ⟨g,o + i,none⟩ = some (.int .i64 x) /\ wx.cell? ⟨gs,0,none⟩ = some (.bool sn) /\ wx.cell? ⟨gs,1,none⟩ = some (.slice sA sk sc)):=Za (fun wx hbx=>⟨Zc hbx ci,Zc hbx s0,Zc hbx s1⟩);have hr1 : Below wr.heap.size wr wr.drew:=Zf (Below.refl _ _) 1;refine wp_heldS [17] hmx hSv1 hr1 (fun hxs1=>?_);refine Zif 1 [0] rfl (by kernel_rfl) (hSv1.out _ hr1) ?_
  (refine tk1 (v:=?_) rfl (Or.inl ⟨by kernel_rfl,?_⟩) ?_;rotate_left;(· intro W2 hSw;(try dsimp only at hSw);go_simp;try with_reducible rfl);try simp only [Act.put,Zf0,Zfg,Zfv,putG_a,putG_s,putG_z])
  refine tk0 ?_;refine Zfh 5 [1,3,4,7,8] rfl (by kernel_rfl) (hSv1.out _ hr1) ?_
  iterate 5 (refine tk1 (v:=?_) rfl (Or.inl ⟨by kernel_rfl,?_⟩) ?_;rotate_left;(· intro W2 _;go_simp;try with_reducible rfl);try simp only [Act.put,Zf0,Zfg,Zfv,putG_a,putG_s,putG_z])
  refine tk0 ?_;refine Zbl [(2,22),(5,25),(6,26),(9,29),(10,30),(11,31),(12,32),(13,33),(14,19)] (fun i=>match i with | 14=>[15,16] | _=>[]) [(2,22),(5,25),(6,26),(9,29),(10,30),(11,31),(12,32),(13,33),(14,19),(15,34),(16,35)] (Zct x a0 b0 s) 1 (by kernel_rfl) (fun _ _ _ _ _ hb h=>Zj5 hb h) (fun wx h=>hSv1.out _ (hr1.trans (h.mono hr1.size))) ?hop1 ?hfin1
  case hop1 =>
   intro p hp;simp only [List.mem_cons,List.not_mem_nil,or_false] at hp;simp only [List.map_cons,List.map_nil,Zav,Act.put,Zf0,Zfg,Zfv]
   rcases hp with rfl | rfl | rfl | rfl | rfl | rfl | rfl | rfl | rfl
   ·intro ν wx hb hP
    have hbx:=hr1.trans (hb.mono hr1.size);refine Zn (i:=2) rfl (fun K hK=>?_);go_simp;refine (Zaz x wx hx.1 hx.2).mono ?_;rintro e w5 ⟨hb5,na5,A5,k5,c5,rfl,hf5⟩;exact hK.out _ _ ⟨_,rfl,(by simp only [Zct];exact ⟨_,_,_,_,rfl,hf5⟩),hb5,trivial⟩
   ·intro ν wx hb hP
    have hbx:=hr1.trans (hb.mono hr1.size);refine Zn (i:=5) rfl (fun K hK=>?_);go_simp;refine (hA.out wx i (hBp.trans (hbx.mono hBp.size)) hin).mono ?_;rintro e w5 ⟨rfl,hb5⟩;exact hK.out _ _ ⟨_,rfl,(show Value.int .i64 _ = Value.int .i64 _ from by rw [hae.out]),hb5,trivial⟩
   ·intro ν wx hb hP
    have hbx:=hr1.trans (hb.mono hr1.size);have h3:=hP (5,25) (by simp) (by kernel_rfl);replace h3:=dot5 h3;rw [h3];refine Zn (i:=6) rfl (fun K hK=>?_);go_simp;refine (Zaz a0 wx ha.1 ha.2).mono ?_;rintro e w5 ⟨hb5,na5,A5,k5,c5,rfl,hf5⟩;exact hK.out _ _ ⟨_,rfl,(by simp only [Zct];exact ⟨_,_,_,_,rfl,hf5⟩),hb5,trivial⟩
   ·intro ν wx hb hP
    have hbx:=hr1.trans (hb.mono hr1.size);refine Zn (i:=9) rfl (fun K hK=>?_);go_simp;refine (hB.out wx i (hBp.trans (hbx.mono hBp.size)) hin).mono ?_;rintro e w5 ⟨rfl,hb5⟩;exact hK.out _ _ ⟨_,rfl,(show Value.int .i64 _ = Value.int .i64 _ from by rw [hbe.out]),hb5,trivial⟩
   ·intro ν wx hb hP
    have hbx:=hr1.trans (hb.mono hr1.size);have h3:=hP (9,29) (by simp) (by kernel_rfl);replace h3:=dot9 h3;rw [h3];refine Zn (i:=10) rfl (fun K hK=>?_);go_simp;refine (Zaz b0 wx hb0.1 hb0.2).mono ?_;rintro e w5 ⟨hb5,na5,A5,k5,c5,rfl,hf5⟩;exact hK.out _ _ ⟨_,rfl,(by simp only [Zct];exact ⟨_,_,_,_,rfl,hf5⟩),hb5,trivial⟩
   ·intro ν wx hb hP
    have hbx:=hr1.trans (hb.mono hr1.size);have h3:=hP (6,26) (by simp) (by kernel_rfl);replace h3:=dot6 h3;obtain ⟨na3,A3,k3,c3,hν3,hf3⟩:=h3;rw [hν3];have h4:=hP (10,30) (by simp) (by kernel_rfl);replace h4:=Zro h4;obtain ⟨na4,A4,k4,c4,hν4,hf4⟩:=h4;rw [hν4];refine Zn (i:=11) rfl (fun K hK=>?_);go_simp;refine (Zc0 na3 na4 A3 A4 k3 c3 k4 c4 _ _ wx hf3 hf4 (Zuc ha hb0)).mono ?_;rintro e w5 ⟨hb5,na5,A5,k5,c5,rfl,hf5⟩;exact hK.out _ _ ⟨_,rfl,(by simp only [Zct];exact ⟨_,_,_,_,rfl,hf5⟩),hb5,trivial⟩
   ·intro ν wx hb hP
    have hbx:=hr1.trans (hb.mono hr1.size);have h3:=hP (2,22) (by simp) (by kernel_rfl);replace h3:=dot2 h3;obtain ⟨na3,A3,k3,c3,hν3,hf3⟩:=h3;rw [hν3];have h4:=hP (11,31) (by simp) (by kernel_rfl);replace h4:=Zrf h4;obtain ⟨na4,A4,k4,c4,hν4,hf4⟩:=h4;rw [hν4];refine Zn (i:=12) rfl (fun K hK=>?_);go_simp;refine (Zc0 na3 na4 A3 A4 k3 c3 k4 c4 _ _ wx hf3 hf4 (Zpo hx ha hb0)).mono ?_;rintro e w5 ⟨hb5,na5,A5,k5,c5,rfl,hf5⟩;exact hK.out _ _ ⟨_,rfl,(by simp only [Zct];exact ⟨_,_,_,_,rfl,hf5⟩),hb5,trivial⟩
   ·intro ν wx hb hP
    have hbx:=hr1.trans (hb.mono hr1.size);have h4:=hP (12,32) (by simp) (by kernel_rfl);replace h4:=Zrc h4;obtain ⟨na4,A4,k4,c4,hν4,hf4⟩:=h4;rw [hν4];refine Zn (i:=13) rfl (fun K hK=>?_);go_simp;refine (Zqv sn na4 sA A4 sk sc k4 c4 _ _ wx (hs.out.below hbx) hf4).mono ?_;rintro e w5 ⟨hb5,na5,A5,k5,c5,code,rfl,hR⟩
    rcases hR with ⟨_,rfl,hf5⟩ | ⟨hlt,_⟩
    ·exact hK.out _ _ ⟨_,rfl,(by simp only [Zct];exact ⟨_,_,_,_,rfl,hf5⟩),hb5,trivial⟩
    ·exact absurd hlt (Nat.not_le.2 hsum.out)
   ·intro ν wx hb hP
    have hbx:=hr1.trans (hb.mono hr1.size);have h3:=hP (13,33) (by simp) (by kernel_rfl);replace h3:=Zrg h3;obtain ⟨na3,A3,k3,c3,hν3,hf3⟩:=h3;rw [hν3];refine Zn (i:=14) rfl (fun K hK=>?_);go_simp;refine hK.out _ _ ⟨_,rfl,(by simp only [Zct];exact ⟨_,_,_,_,rfl,hf3⟩),Below.refl _ _,?_⟩;refine ⟨_,.agg #[.bool na3,.slice A3 k3 c3],rfl,Or.inl ⟨by kernel_rfl,fun W2 _=>by go_simp⟩,(by simp only [Zct];exact ⟨_,_,_,_,rfl,hf3⟩),?_⟩;exact ⟨_,.int .i64 0,rfl,Or.inl ⟨by kernel_rfl,fun W2 _=>by go_simp⟩,rfl,trivial⟩
  case hfin1 =>
   intro ν wx hb hP;have h2:=dot2 (hP (2,22) (by simp));have h5:=dot5 (hP (5,25) (by simp));have h6:=dot6 (hP (6,26) (by simp));have h9:=dot9 (hP (9,29) (by simp));have h10:=Zro (hP (10,30) (by simp));have h11:=Zrf (hP (11,31) (by simp));have h12:=Zrc (hP (12,32) (by simp));have h13:=Zrg (hP (13,33) (by simp));have h14:=dot14 (hP (14,19) (by simp));have h15:=dot15 (hP (15,34) (by simp));have h16:=dot16 (hP (16,35) (by simp));obtain ⟨_,_,_,_,h2,-⟩:=h2;obtain ⟨_,_,_,_,h6,-⟩:=h6;obtain ⟨_,_,_,_,h10,-⟩:=h10;obtain ⟨_,_,_,_,h11,-⟩:=h11;obtain ⟨_,_,_,_,h12,-⟩:=h12;obtain ⟨_,_,_,_,h13,-⟩:=h13;obtain ⟨_,_,_,_,h14,-⟩:=h14;obtain ⟨n5,A5,k5,c5,h15,hf5⟩:=h15;simp only [List.map_cons,List.map_nil,Zav,Act.put,Zf0,Zfg,Zfv];rw [h2,h5,h6,h9,h10,h11,h12,h13,h14,h15,h16];clear h2 h5 h6 h9 h10 h11 h12 h13 h14 h15 h16 hP ν;have hbx:=hr1.trans (hb.mono hr1.size);have qs6:=Zb hbx qs.out;have qr6:=Zb hbx qr.out;obtain ⟨W6,hW6,hB6,q6,kW6⟩:=Zax (B:=gs) n5 A5 k5 c5 (Below.refl gs wx) (Nat.le_refl _) qs6
   have hB7 : Below w.heap.size w W6:=by
    rw [<- hW6];exact ((hBp.trans (hbx.mono hBp.size)).setCell (p:=⟨gs,0,none⟩) hgs _).setCell (p:=⟨gs,1,none⟩) hgs _
   have hf7:=Za (kW6.1 _ _ _ _ _ hf5);have qr7:=kW6.2.1 gr _ _ hgrs qr6;obtain ⟨y0,y1,y2,y3⟩:=qs6.two;replace q6:=Za q6;replace qr7:=Za qr7;replace hB7:=Za hB7;clear hf5 kW6 qs6 qr6 hB6;refine Zu (i:=17) rfl (by kernel_rfl) (by kernel_rfl) (fun K hK=>?_);go_simp;(try rw [hW6]);refine hK.out _ _ ?_;clear hK K
   try simp only [Act.put,Zf0,Zfg,Zfv]
   refine Zk (by kernel_rfl) ?_ _;refine OnlyNormal.normal ?_;clear hW6 y0 y1 y2 y3 hbx hb hr1 hSv1 hxs1 ci s0 s1;go_wp2_with fail
   go_roundw
   case rel=>exact ⟨i + 1,n5,A5,k5,c5,by omega,by go_num,hf7.out.same hnext.out.symm,q6.out,qr7.out,hB7.out⟩
   case measure=>simp [intOf];omega
open Go.RowKit Go.Shelf
attribute [local go_sem] Oper.semAt_some
def rsAt (es : List RS) (k : Nat) : RS:=es[k]?.getD ⟨none,0,0⟩
def SL (w : World) (A : Option Addr) (n c : Nat) (es : List RS) : Prop:=
 es.length = n /\ n <= c /\ c <= maxLen /\ (0 < n -> ∃ g o,A = some ⟨g,o,none⟩ /\ ∀ (k : Nat) (e : RS),es[k]? = some e -> w.cell? ⟨g,o + k,none⟩ = some (.slice e.A e.n e.c))
theorem SL.below {w w' : World} {A : Option Addr} {n c : Nat} {es : List RS} (h : SL w A n c es) (hb : Below w.heap.size w w') : SL w' A n c es:=
 ⟨h.1,h.2.1,h.2.2.1,fun hn=>by
  obtain ⟨b,o,e,hc⟩:=h.2.2.2 hn
  exact ⟨b,o,e,fun k x hx=>Zc hb (hc k x hx)⟩⟩
theorem SL.at_ {w : World} {A : Option Addr} {n c : Nat} {es : List RS} (h : SL w A n c es) {k : Nat} (hk : k < n) : ∃ b o e,A = some ⟨b,o,none⟩ /\ es[k]? = some e /\ w.cell? ⟨b,o + k,none⟩ = some (.slice e.A e.n e.c):=by
 obtain ⟨h1,-,-,h4⟩:=h;obtain ⟨b,o,e,hc⟩:=h4 (by omega);have he:=List.getElem?_eq_getElem (l:=es) (i:=k) (by omega);exact ⟨b,o,es[k],e,he,hc k _ he⟩
theorem sl_kept {W W' : World} {row : Option Nat} {A : Option Addr} {n c : Nat} {es : List RS} (h : SL W A n c es) (hg : W.grownBy W' row) (hrow : ∀ r,row = some r -> ∃ o : Obj,W.heap[r]? = some o /\ o.isCells = false) : SL W' A n c es:=
 ⟨h.1,h.2.1,h.2.2.1,fun hn=>by
  obtain ⟨b,o,e,hc⟩:=h.2.2.2 hn
  exact ⟨b,o,e,fun k x hx=>cell_kept (hc k x hx) hg hrow⟩⟩
def KpR (Bs : Nat) (A : Option Addr) (n c : Nat) (es : List RS) (W W' : World) : Prop:=
 (W.cell? ⟨Bs,0,none⟩ = some (.slice A n c) -> W'.cell? ⟨Bs,0,none⟩ = some (.slice A n c)) /\ (SL W A n c es -> SL W' A n c es)
theorem KpR.trans {Bs n c : Nat} {A : Option Addr} {es : List RS} {W1 W2 W3 : World} (h : KpR Bs A n c es W1 W2) (k : KpR Bs A n c es W2 W3) : KpR Bs A n c es W1 W3:=⟨fun x=>k.1 (h.1 x),fun x=>k.2 (h.2 x)⟩
theorem KpR.put {Bs n c : Nat} {A : Option Addr} {es : List RS} (W : World) (lp : Nat) (o o' : Obj) (ho : W.heap[lp]? = some o) (hc : o.isCells = false) : KpR Bs A n c es W (W.putObj lp o'):=
 ⟨fun h=>cell_kept h (grownBy_putObj' W lp o') (fun r e=>by cases e;exact ⟨o,ho,hc⟩),fun h=>sl_kept h (grownBy_putObj' W lp o') (fun r e=>by cases e;exact ⟨o,ho,hc⟩)⟩
theorem Zs4 (A : Option Addr) (n c : Nat) (w : World) :
    Calls Tryz.prog 116 #[.slice A n c] w fun e w'=>e = .returned (.func (.func 155) #[] #[.pointer (some ⟨w.heap.size,0,none⟩)]) /\ w.alloc (.cells #[.slice A n c] 88) = w':=by
 go_enter Tryz.func116,Tryz.ntmps116
 go_wp2
 go_ret;exact ⟨rfl,rfl⟩
end Go.Proofs.YtigdclhagmnopaaGreat
