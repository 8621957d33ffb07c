/- The reference of linear: clear. A matrix of fractions that -/
import Derived.Deep.LoopGhost
import Derived.Test.YtigdclhagmnopaaGreatZq19
set_option linter.unusedSimpArgs false
set_option linter.unusedVariables false
namespace Go.Proofs.YtigdclhagmnopaaGreat
open Go.RowKit
attribute [local go_sem] Zh
theorem Zcv {α:Type} {L:List α} {i:Nat} (h:i < L.length):∃ r,L[i]?=some r:=⟨_,List.getElem?_eq_getElem h⟩
theorem Zos {α β:Type} {f:α->β} {L:List α} {i:Nat} {r s:α} (hr:L[i]?=some r) (h:f s=f r):(L.set i s).map f=L.map f:=by
 rw [List.map_set]
 apply List.ext_getElem?
 intro j;rw [List.getElem?_set]
 split
 ·rename_i hij
  subst hij;have hi:=(List.getElem?_eq_some_iff.1 hr).1;rw [if_pos (by simpa using hi),List.getElem?_map,hr,h];rfl
 ·rfl
section
variable {P:Program} (w:World)
theorem Zcd {o:Oper} {a:Act} {K:Act->World->Prop} {Q:Exit->Act->World->Prop} (s x:Operand) (t:TypeId)
    (ho:o.op=.call { callee:=.builtin .append,args:=#[s,x],argTypes:=#[t,t] })
    (base:Nat) (e:TypeId) (i:TypeInfo) (ht:P.underlying t=some (.slice e)) (hi:P.info? e=some i) (hz:i.zero=some (.slice none 0 0)) (hsi:i.size=1) (hby:i.bytes=24)
    (v:Value) (rs:List RS) (hs:a.eval s=v) (hown:RowS e w base v rs)
    (B:Nat) (A:Option Addr) (m c:Nat) (fs:List RS) (hx:a.eval x=.slice A m c) (hr:Reads w B 1 A m (Zar fs)) (hm:fs.length=m)
    (h63:rs.length+m <= 1000) (hbase:base <= w.heap.size)
    (h:∀ v' w',RowS e w' base v' (rs ++ fs)->w.grownBy w' v.ownBlock->(∀ (A:Option Addr) (n c:Nat) (l:List Nat),Lim w A n c l->Lim w' A n c l)->K (a.put o.dst v') w'):o.wp P a w K Q:=by
 obtain ⟨v',w',hrun,h3,h4⟩:=Zlm (P:=P) w base t o.type e i ht hi hz hsi hby v rs hown B A m c fs hr hm h63 hbase;unfold Oper.wp execOp;simp only [ho,resolve,invoke,builtin,Sem.run_bind,Sem.run_pure,Result.andThen_ok,List.map_toArray,List.map_cons,List.map_nil,hs,hx,hrun];exact h v' w' h3 h4 (fun _ _ _ _ hL=>hown.keep h4 hL)
theorem Zjl {ops:Array Oper} {rest:List Oper} {o:Oper} {a:Act} {Q:Exit->Act->World->Prop} (hgd:o.guard=none) (s x:Operand) (t:TypeId)
    (ho:o.op=.call { callee:=.builtin .append,args:=#[s,x],argTypes:=#[t,t] })
    (base:Nat) (e:TypeId) (i:TypeInfo) (ht:P.underlying t=some (.slice e)) (hi:P.info? e=some i) (hz:i.zero=some (.slice none 0 0)) (hsi:i.size=1) (hby:i.bytes=24)
    (v:Value) (rs:List RS) (hs:a.eval s=v) (hown:RowS e w base v rs)
    (B:Nat) (A:Option Addr) (m c:Nat) (fs:List RS) (hx:a.eval x=.slice A m c) (hr:Reads w B 1 A m (Zar fs)) (hm:fs.length=m)
    (h63:rs.length+m <= 1000) (hbase:base <= w.heap.size)
    (h:∀ v' w',RowS e w' base v' (rs ++ fs)->w.grownBy w' v.ownBlock->(∀ (A:Option Addr) (n c:Nat) (l:List Nat),Lim w A n c l->Lim w' A n c l)->wpList P ops Q rest (a.put o.dst v') w'):wpList P ops Q (o :: rest) a w:=
 wpList_plain hgd fun _ hK=>Zcd w s x t ho base e i ht hi hz hsi hby v rs hs hown B A m c fs hx hr hm h63 hbase fun v' w' h2 h3 h4=>hK _ _ (h v' w' h2 h3 h4)
end
theorem Zuj (w:World) (A:Option Addr) (n c:Nat) (t:TypeId):Reads (w.alloc (.cells #[.slice A n c] t)) (w.heap.size+1) 1 (some ⟨w.heap.size,0,none⟩) 1 (Zar [⟨A,n,c⟩]):=
 ⟨rfl,fun _=>⟨_,rfl,Nat.lt_succ_self _,fun j u hu=>by
  rw [Zh,Nat.zero_add,(Blk.new w t #[.slice A n c]).cell]
  simpa [Zar] using hu⟩⟩
theorem FL.reads {w:World} {A:Option Addr} {n c:Nat} {qs:List Rat} (h:FL w A n c qs):∃ fs:List FE,Reads w w.heap.size 4 A n (Zq fs)/\fs.length=n/\(∀ e ∈ fs,e.in_ w)/\fs.map FE.q=qs:=by
 obtain ⟨es,h1,h2,h3,h4,h5,h6⟩:=h;refine ⟨es,⟨by rw [Zw,h1],fun hn=>?_⟩,h1,h4,h5⟩;obtain ⟨g,o,e1,hc⟩:=h6 hn;refine ⟨⟨g,o,none⟩,e1,?_,fun j u hu=>?_⟩
 ·have:=(hc 0 es[0] (List.getElem?_eq_getElem (by omega))).1
  exact Zp this
 ·rw [Zh]
  have hj:j < es.length * 4:=by
   have:=(List.getElem?_eq_some_iff.1 hu).1
   rwa [Zw] at this
  have he:=List.getElem?_eq_getElem (show j / 4 < es.length by omega);have hg:=Zez he;have hm:=hc (j / 4) _ he
  have h4:j % 4=0 \/ j % 4=1 \/ j % 4=2 \/ j % 4=3:=by omega
  rcases h4 with h2 | h2 | h2 | h2
  ·rw [show j / 4 * 4=j by omega] at hg hm;rw [hg.1] at hu;cases hu;exact hm.1
  ·rw [show j / 4 * 4+1=j by omega] at hg hm;rw [hg.2.1] at hu;cases hu;exact hm.2.1
  ·rw [show j / 4 * 4+2=j by omega] at hg hm;rw [hg.2.2.1] at hu;cases hu;exact hm.2.2.1
  ·rw [show j / 4 * 4+3=j by omega] at hg hm;rw [hg.2.2.2] at hu;cases hu;exact hm.2.2.2
theorem Ze2:(Tryz.prog.info? 45).map (fun i=>(i.zero,i.size,i.bytes))=some (some (.agg #[.bool false,.slice none 0 0,.bool false,.slice none 0 0]),4,64):=by kernel_rfl
theorem Zjm:(Tryz.prog.info? 40).map (fun i=>(i.zero,i.size,i.bytes))=some (some (.slice none 0 0),1,24):=by kernel_rfl
theorem Blk.type {w:World} {g:Nat} {t t':TypeId} {cs cs':Array Value} (h:Blk w g t cs) (h':Blk w g t' cs'):t=t':=by
 unfold Blk at h h';rw [h] at h'
 cases h';rfl
section
variable {tS tF:TypeId} {w w':World} {base:Nat} {v v':Value} {L:List RF}
theorem RowS.ownType {rs:List RS} (h:RowS tS w base v rs) {g:Nat} {cs:Array Value} (hb:Blk w g tF cs) (hne:tS ≠ tF):v.ownBlock ≠ some g:=by
 rintro e
 rcases h with ⟨rfl,_⟩ | ⟨g',sp,rfl,_,_,h4⟩
 ·cases e
 ·have:g'=g:=by simpa [Value.ownBlock] using e
  subst this;exact hne (h4.type hb)
theorem FOwn.grown {g:Nat} {qs:List Rat} (h:FOwn tF w g qs) (hg:w.grownBy w' v.ownBlock) (hne:v.ownBlock ≠ some g) (hk:∀ (A:Option Addr) (n c:Nat) (l:List Nat),Lim w A n c l->Lim w' A n c l):FOwn tF w' g qs:=by
 obtain ⟨es,zs,h1,h2,h3⟩:=h;exact ⟨es,zs,(hg.block g h1.lt (fun e=>hne (by first | exact e | exact e.symm))).trans h1,fun e he=>(h2 e he).of_keep hk,h3⟩
end
structure RZ where
 g:Nat
 q:List Int
def RZ.rs (r:RZ):RS:=⟨some ⟨r.g,0,none⟩,r.q.length,r.q.length⟩
def MatZ (tS tF:TypeId) (w:World) (go:Nat) (L:List RZ):Prop:=
 (∃ zs,Blk w go tS (Z7 (L.map RZ.rs ++ zs)))/\(∀ r ∈ L,POwn tF w r.g r.q/\r.q.length <= maxLen)/\(go :: L.map RZ.g).Nodup
section
variable {tS tF:TypeId} {w w':World} {go:Nat} {L:List RZ}
theorem MatZ.below (h:MatZ tS tF w go L) (hb:Below w.heap.size w w'):MatZ tS tF w' go L:=by
 obtain ⟨⟨zs,h1⟩,h2,h3⟩:=h;exact ⟨⟨zs,Zc hb h1⟩,fun r hr=>⟨(h2 r hr).1.below hb,(h2 r hr).2⟩,h3⟩
theorem MatZ.cell (h:MatZ tS tF w go L) {i:Nat} {r:RZ} (hr:L[i]?=some r):w.cell? ⟨go,i,none⟩=some (.slice (some ⟨r.g,0,none⟩) r.q.length r.q.length)/\w.frozen? ⟨go,i,none⟩=false:=by
 obtain ⟨⟨zs,h1⟩,-,-⟩:=h;refine ⟨?_,h1.frozen i⟩;rw [h1.cell];refine Zbw (e:=r.rs) ?_;have hi:=(List.getElem?_eq_some_iff.1 hr).1;rw [List.getElem?_append_left (by simpa using hi),List.getElem?_map,hr];rfl
theorem MatZ.row (h:MatZ tS tF w go L) {i:Nat} {r:RZ} (hr:L[i]?=some r):POwn tF w r.g r.q/\r.q.length <= maxLen:=h.2.1 r (List.mem_of_getElem? hr)
theorem MatZ.ne (h:MatZ tS tF w go L) {i:Nat} {r:RZ} (hr:L[i]?=some r):go ≠ r.g:=fun e=>by
 have:=(List.nodup_cons.1 h.2.2).1;exact this (List.mem_map.2 ⟨r,List.mem_of_getElem? hr,e.symm⟩)
theorem MatZ.ne2 (h:MatZ tS tF w go L) {i j:Nat} {r s:RZ} (hr:L[i]?=some r) (hs:L[j]?=some s) (hij:i ≠ j):r.g ≠ s.g:=fun e=>by
 have hn:=(List.nodup_cons.1 h.2.2).2
 have h1:(L.map RZ.g)[i]?=some r.g:=by rw [List.getElem?_map,hr];rfl
 have h2:(L.map RZ.g)[j]?=some r.g:=by rw [List.getElem?_map,hs,e];rfl
 exact hij ((List.getElem?_inj (by have:=(List.getElem?_eq_some_iff.1 h1).1;exact this) hn).1 (h1.trans h2.symm))
theorem MatZ.boxes (h:MatZ tS tF w go L):∀ k,(k=go \/ k ∈ L.map RZ.g)->∃ t cs,Blk w k t cs/\NoLimb cs:=by
 intro k hk;obtain ⟨⟨zs,h1⟩,h2,-⟩:=h
 rcases hk with rfl | hk
 ·exact ⟨tS,_,h1,Zbb _⟩
 ·obtain ⟨r,hr,rfl⟩:=List.mem_map.1 hk
  exact (h2 r hr).1.box
theorem MatZ.set_ (h:MatZ tS tF w go L) {i:Nat} {r:RZ} (hr:L[i]?=some r) {k:Nat} (hk:k < r.q.length) {na:Bool} {A:Option Addr} {n c:Nat} {x:Int} (hf:Wd w na A n c x) :
    MatZ tS tF ((w.setCell ⟨r.g,k * 2,none⟩ (.bool na)).setCell ⟨r.g,k * 2+1,none⟩ (.slice A n c)) go (L.set i ⟨r.g,r.q.set k x⟩):=by
 have hne:=h.ne hr
 have hne2:=fun {j:Nat} {s:RZ} (hs:L[j]?=some s) (hij:j ≠ i)=>h.ne2 hs hr hij
 have hrow:=h.row hr;have hi:=(List.getElem?_eq_some_iff.1 hr).1;obtain ⟨⟨zs,h1⟩,h2,h3⟩:=h;refine ⟨⟨zs,?_⟩,fun s hs=>?_,?_⟩
 ·have e:(L.set i ⟨r.g,r.q.set k x⟩).map RZ.rs=L.map RZ.rs:=by
    rw [List.map_set]
    apply List.ext_getElem?
    intro j;rw [List.getElem?_set]
    by_cases hij:i=j
    ·subst hij
     rw [if_pos rfl,if_pos (by simpa using hi),List.getElem?_map,hr]
     simp [RZ.rs]
    ·rw [if_neg hij]
  rw [e];exact (h1.far hne _).far hne _
 ·obtain ⟨j,hj,hjs⟩:=List.getElem_of_mem hs
  have hs2:(L.set i ⟨r.g,r.q.set k x⟩)[j]?=some s:=by rw [List.getElem?_eq_getElem hj,hjs]
  rw [List.getElem?_set] at hs2
  by_cases hij:i=j
  ·subst hij
   rw [if_pos rfl,if_pos hi] at hs2
   cases hs2
   exact ⟨hrow.1.set_ hk hf,by simpa using hrow.2⟩
  ·rw [if_neg hij] at hs2
   have:=h2 s (List.mem_of_getElem? hs2);exact ⟨this.1.other hrow.1 (hne2 hs2 (Ne.symm hij)) _ _ _ _ _,this.2⟩
 ·have e:(L.set i ⟨r.g,r.q.set k x⟩).map RZ.g=L.map RZ.g:=by
    rw [List.map_set]
    apply List.ext_getElem?
    intro j;rw [List.getElem?_set]
    by_cases hij:i=j
    ·subst hij
     rw [if_pos rfl,if_pos (by simpa using hi),List.getElem?_map,hr];rfl
    ·rw [if_neg hij]
  rw [e];exact h3
theorem MatZ.swap (h:MatZ tS tF w go L) {i j:Nat} {r s:RZ} (hr:L[i]?=some r) (hs:L[j]?=some s) :
    MatZ tS tF ((w.setCell ⟨go,i,none⟩ (.slice (some ⟨s.g,0,none⟩) s.q.length s.q.length)).setCell ⟨go,j,none⟩ (.slice (some ⟨r.g,0,none⟩) r.q.length r.q.length)) go (Zai L i j):=by
 have hi:=(List.getElem?_eq_some_iff.1 hr).1;have hj:=(List.getElem?_eq_some_iff.1 hs).1
 have hne:=fun {j:Nat} {s:RZ} (hs:L[j]?=some s)=>h.ne hs
 obtain ⟨⟨zs,h1⟩,h2,h3⟩:=h;have hb1:=h1.set_ i (.slice (some ⟨s.g,0,none⟩) s.q.length s.q.length);have hn1:NoLimb ((Z7 (L.map RZ.rs ++ zs)).setIfInBounds i (.slice (some ⟨s.g,0,none⟩) s.q.length s.q.length)):=Zfv (Zbb _) i (fun x=>by simp);have hb2:=hb1.set_ j (.slice (some ⟨r.g,0,none⟩) r.q.length r.q.length)
 have hk:∀ (A:Option Addr) (n c:Nat) (l:List Nat),Lim w A n c l->Lim ((w.setCell ⟨go,i,none⟩ (.slice (some ⟨s.g,0,none⟩) s.q.length s.q.length)).setCell ⟨go,j,none⟩ (.slice (some ⟨r.g,0,none⟩) r.q.length r.q.length)) A n c l:=
  fun A n c l hl=>(hl.set_box h1 (Zbb _) _ _).set_box hb1 hn1 _ _
 refine ⟨⟨zs,?_⟩,fun x hx=>?_,?_⟩
 ·have e:Z7 ((Zai L i j).map RZ.rs ++ zs)=((Z7 (L.map RZ.rs ++ zs)).setIfInBounds i (.slice (some ⟨s.g,0,none⟩) s.q.length s.q.length)).setIfInBounds j (.slice (some ⟨r.g,0,none⟩) r.q.length r.q.length):=by
    have e1:=Zdb (es:=L.map RZ.rs ++ zs) (i:=i) s.rs;have e2:=Zdb (es:=(L.map RZ.rs ++ zs).set i s.rs) (i:=j) r.rs;simp only [RZ.rs] at e1 e2;rw [e1,e2,Zwb hr hs]
    congr 1
    rw [List.map_set,List.map_set,List.set_append_left _ _ (by simpa using hi),List.set_append_left _ _ (by simpa using hj)]
    rfl
  rw [e];exact hb2
 ·have hx2:=Zia L i j x hx
  obtain ⟨es,q1,q2,q3⟩:=(h2 x hx2).1;obtain ⟨k,hk1,hk2⟩:=List.getElem_of_mem hx2;have hgx:x.g ≠ go:=Ne.symm (hne (j:=k) (s:=x) (by rw [List.getElem?_eq_getElem hk1,hk2]));exact ⟨⟨es,(q1.far hgx _).far hgx _,fun e he=>⟨hk _ _ _ _ (q2 e he).1,(q2 e he).2⟩,q3⟩,(h2 x hx2).2⟩
 ·rw [List.nodup_cons] at h3 ⊢
  rw [Zj5];refine ⟨fun hm=>h3.1 (Zia _ _ _ _ hm),Zq4 h3.2 (by simpa using hi) (by simpa using hj)⟩
theorem MatZ.keptG {G:Nat->Prop} (h:MatZ tS tF w go L) (hk:Kept G w w') (hg:¬ G go) (hgs:∀ r ∈ L,¬ G r.g) (hG:∀ k,G k->∃ t cs,Blk w k t cs/\NoLimb cs):MatZ tS tF w' go L:=by
 obtain ⟨⟨zs,h1⟩,h2,h3⟩:=h;refine ⟨⟨zs,hk.blk h1 hg⟩,fun r hr=>⟨?_,(h2 r hr).2⟩,h3⟩;obtain ⟨es,q1,q2,q3⟩:=(h2 r hr).1;exact ⟨es,hk.blk q1 (hgs r hr),fun e he=>⟨hk.lim (q2 e he).1 hG,(q2 e he).2⟩,q3⟩
end
def Zas (L:List RZ) (i:Nat):List Int:=(L[i]?.map RZ.q).getD []
theorem Zg2 {L:List RZ} {i:Nat} {r:RZ} (h:L[i]?=some r):Zas L i=r.q:=by unfold Zas;rw [h];rfl
theorem Zjk (L:List RZ) (i j:Nat):Zaf (L.map RZ.q) i j=(Zas L i)[j]?.getD 0:=by unfold Zaf Zas;rw [List.getElem?_map]
theorem Zju (L:List RZ) (i:Nat):Zas L i=(L.map RZ.q)[i]?.getD []:=by unfold Zas;rw [List.getElem?_map]
theorem Ztr {L:List RZ} {i j:Nat} {r:RZ} (hi:i < L.length):Zas (L.set i r) j=if j=i then r.q else Zas L j:=by
 unfold Zas;rw [List.getElem?_set]
 by_cases h:i=j
 ·subst h;rw [if_pos rfl,if_pos hi,if_pos rfl];rfl
 ·rw [if_neg h,if_neg (Ne.symm h)]
theorem Zwf {L:List RZ} {R:List (List Int)} (hl:L.length=R.length) (h:∀ i,i < R.length->Zas L i=R[i]?.getD []):L.map RZ.q=R:=by
 apply List.ext_getElem?
 intro i;rw [List.getElem?_map]
 by_cases hi:i < R.length
 ·have:=h i hi
  unfold Zas at this;rw [List.getElem?_eq_getElem (show i < L.length by omega),List.getElem?_eq_getElem hi] at this ⊢;simp only [Option.map_some,Option.getD_some] at this ⊢;rw [this]
 ·rw [List.getElem?_eq_none (by omega),List.getElem?_eq_none (by omega)];rfl
theorem Zrb {R:List (List Int)} {r col i:Nat} {last:Int} (hi:i < R.length):(Zc9 R r col last)[i]?.getD []=if i <= r then R[i]?.getD [] else Zpj (R[r]?.getD []) (R[i]?.getD []) col (Zaf R r col) last:=by
 unfold Zc9;rw [List.getElem?_map,List.getElem?_range hi];rfl
theorem rowZ_eq {p row q:List Int} {col:Nat} {piv last:Int} (hl:q.length=row.length) (h:∀ t,q[t]?.getD 0=if t < row.length then Int.fdiv (row[t]?.getD 0 * piv - row[col]?.getD 0 * p[t]?.getD 0) last else row[t]?.getD 0):q=Zpj p row col piv last:=by
 apply List.ext_getElem?
 intro t;unfold Zpj;rw [List.getElem?_map];have:=h t
 by_cases ht:t < row.length
 ·rw [List.getElem?_range ht]
  rw [List.getElem?_eq_getElem (show t < q.length by omega)] at this ⊢;simp only [Option.map_some,Option.getD_some] at this ⊢;rw [this,if_pos ht]
 ·rw [List.getElem?_eq_none (by omega),List.getElem?_eq_none (l:=List.range _) (by simpa using ht)];rfl
theorem Zve {row q:List Int} {k:Nat} {x:Int} {f:Nat->Int} (hl:q.length=row.length) (hkl:k < row.length) (hx:x=f k) (h:∀ t,q[t]?.getD 0=if t < k then f t else row[t]?.getD 0) :
    ∀ t,(q.set k x)[t]?.getD 0=if t < k+1 then f t else row[t]?.getD 0:=by
 intro t;rw [List.getElem?_set]
 by_cases ht:k=t
 ·subst ht
  rw [if_pos rfl,if_pos (by omega),if_pos (by omega),hx];rfl
 ·rw [if_neg ht,h t]
  by_cases h1:t < k
  ·rw [if_pos h1,if_pos (by omega)]
  ·rw [if_neg h1,if_neg (by omega)]
end Go.Proofs.YtigdclhagmnopaaGreat
