/- A matrix of fractions that grows row by row; the -/
import Derived.Lib.SlBuf
import Derived.Test.YtpehacgjclkhmaaGreatZy37
set_option linter.unusedSimpArgs false
set_option linter.unusedVariables false
namespace Go.Proofs.YtpehacgjclkhmaaGreat
open Go.RowKit
attribute [local go_sem] Zg
section
variable {P : Program} (w : World)
theorem Za7 {o : Oper} {a : Act} {K : Act -> World -> Prop} {Q : Exit -> Act -> World -> Prop} (s x : Operand) (t : TypeId)
    (ho : o.op = .call { callee:=.builtin .append,args:=#[s,x],argTypes:=#[t,t] })
    (base : Nat) (e : TypeId) (i : TypeInfo) (ht : P.underlying t = some (.slice e)) (hi : P.info? e = some i) (hz : i.zero = some (.slice none 0 0)) (hsi : i.size = 1) (hby : i.bytes = 24)
    (v : Value) (rs : List RS) (hs : a.eval s = v) (hown : RowS e w base v rs)
    (B : Nat) (A : Option Addr) (m c : Nat) (fs : List RS) (hx : a.eval x = .slice A m c) (hr : Reads w B 1 A m (Z3 fs)) (hm : fs.length = m)
    (h63 : rs.length + m <= 1000) (hbase : base <= w.heap.size)
    (h : ∀ v' w',RowS e w' base v' (rs ++ fs) -> w.grownBy w' v.ownBlock -> (∀ (A : Option Addr) (n c : Nat) (l : List Nat),Lim w A n c l -> Lim w' A n c l) -> K (a.put o.dst v') w') : o.wp P a w K Q:=by
 obtain ⟨v',w',hrun,h3,h4⟩:=Zh5 (P:=P) w base t o.type e i ht hi hz hsi hby v rs hown B A m c fs hr hm h63 hbase;unfold Oper.wp execOp;simp only [ho,resolve,invoke,builtin,Sem.run_bind,Sem.run_pure,Result.andThen_ok,List.map_toArray,List.map_cons,List.map_nil,hs,hx,hrun];exact h v' w' h3 h4 (fun _ _ _ _ hL=>hown.keep h4 hL)
theorem Zfy {ops : Array Oper} {rest : List Oper} {o : Oper} {a : Act} {Q : Exit -> Act -> World -> Prop} (hgd : o.guard = none) (s x : Operand) (t : TypeId)
    (ho : o.op = .call { callee:=.builtin .append,args:=#[s,x],argTypes:=#[t,t] })
    (base : Nat) (e : TypeId) (i : TypeInfo) (ht : P.underlying t = some (.slice e)) (hi : P.info? e = some i) (hz : i.zero = some (.slice none 0 0)) (hsi : i.size = 1) (hby : i.bytes = 24)
    (v : Value) (rs : List RS) (hs : a.eval s = v) (hown : RowS e w base v rs)
    (B : Nat) (A : Option Addr) (m c : Nat) (fs : List RS) (hx : a.eval x = .slice A m c) (hr : Reads w B 1 A m (Z3 fs)) (hm : fs.length = m)
    (h63 : rs.length + m <= 1000) (hbase : base <= w.heap.size)
    (h : ∀ v' w',RowS e w' base v' (rs ++ fs) -> w.grownBy w' v.ownBlock -> (∀ (A : Option Addr) (n c : Nat) (l : List Nat),Lim w A n c l -> Lim w' A n c l) -> wpList P ops Q rest (a.put o.dst v') w') : wpList P ops Q (o :: rest) a w:=
 wpList_plain hgd fun _ hK=>Za7 w s x t ho base e i ht hi hz hsi hby v rs hs hown B A m c fs hx hr hm h63 hbase fun v' w' h2 h3 h4=>hK _ _ (h v' w' h2 h3 h4)
end
theorem Zjp : (Tryz.prog.info? 29).map (fun i=>(i.zero,i.size,i.bytes)) = some (some (.agg #[.bool false,.slice none 0 0,.bool false,.slice none 0 0]),4,64):=by kernel_rfl
theorem infoRow : (Tryz.prog.info? 23).map (fun i=>(i.zero,i.size,i.bytes)) = some (some (.slice none 0 0),1,24):=by kernel_rfl
theorem Blk.type {w : World} {g : Nat} {t t' : TypeId} {cs cs' : Array Value} (h : Blk w g t cs) (h' : Blk w g t' cs') : t = t':=by
 unfold Blk at h h';rw [h] at h'
 cases h';rfl
section
variable {tS tF : TypeId} {w w' : World} {base : Nat} {v v' : Value} {L : List RF}
theorem RowS.ownType {rs : List RS} (h : RowS tS w base v rs) {g : Nat} {cs : Array Value} (hb : Blk w g tF cs) (hne : tS ≠ tF) : v.ownBlock ≠ some g:=by
 rintro e
 rcases h with ⟨rfl,_⟩ | ⟨g',sp,rfl,_,_,h4⟩
 ·cases e
 ·have : g' = g:=by simpa [Value.ownBlock] using e
  subst this;exact hne (h4.type hb)
end
section
variable {tF : TypeId} {w w' : World} {base : Nat} {part : List Rat} {cs : Array Value}
theorem OwnF.ownBlk {v : Value} (h : OwnF tF w base v part) : ∀ k,v.ownBlock = some k -> ∃ cs,Blk w k tF cs /\ NoLimb cs /\ base <= k:=fun k hk=>by
 obtain ⟨es,h1,h2,h3⟩:=h
 rcases h1 with ⟨rfl,_⟩ | ⟨g',sp,rfl,h4,h5,h6⟩
 ·cases hk
 ·have : g' = k:=by simpa [Value.ownBlock] using hk
  subst this;exact ⟨_,h6,Zec _,h4⟩
theorem OwnF.keptG {v : Value} (h : OwnF tF w base v part) {g' : Nat} {t' : TypeId} (hb : Blk w g' t' cs) (hn : NoLimb cs) (hne : v.ownBlock ≠ some g') (hk : Kept (fun k=>k = g') w w') : OwnF tF w' base v part:=by
 have hG : ∀ k,k = g' -> ∃ t cs,Blk w k t cs /\ NoLimb cs:=fun k hk=>⟨t',cs,hk ▸ hb,hn⟩
 obtain ⟨es,h1,h2,h3⟩:=h;refine ⟨es,?_,fun e he=>⟨hk.wd (h2 e he).1 hG,hk.wd (h2 e he).2 hG⟩,h3⟩
 rcases h1 with h | ⟨g2,sp,rfl,h4,h5,h6⟩
 ·exact .inl h
 ·exact .inr ⟨g2,sp,rfl,h4,h5,hk.blk h6 (fun e=>hne (by rw [<- e];rfl))⟩
end
theorem RowS.mfl {tS : TypeId} {w : World} {base : Nat} {v : Value} {rs : List RS} {Q : List (List Rat)} (h : RowS tS w base v rs) (hl : rs.length = Q.length) (hF : ∀ (i : Nat) (r : RS),rs[i]? = some r -> FL w r.A r.n r.c (Q[i]?.getD [])) : ∃ A c,v = .slice A rs.length c /\ MFL w A rs.length c Q:=by
 rcases h with ⟨rfl,rfl⟩ | ⟨g,sp,rfl,h2,h3,h4⟩
 ·exact ⟨none,0,rfl,hl.symm,Nat.le_refl _,Nat.zero_le _,fun h=>absurd h (by simp)⟩
 ·refine ⟨_,_,rfl,hl.symm,by omega,h3,fun _=>⟨g,0,rfl,fun k q hq=>?_⟩⟩
  have hk : k < rs.length:=by rw [hl];exact (List.getElem?_eq_some_iff.1 hq).1
  have he:=List.getElem?_eq_getElem hk;refine ⟨rs[k].A,rs[k].n,rs[k].c,?_,?_⟩
  ·rw [Nat.zero_add,h4.cell]
   exact Zku (e:=rs[k]) (by rw [List.getElem?_append_left hk];exact he)
  ·have:=hF k _ he
   rw [hq] at this;exact this
section
variable {P : Program} (w : World)
theorem Zgf (base : Nat) (t ty e : TypeId) (i : TypeInfo) (ht : P.underlying t = some (.slice e)) (hi : P.info? e = some i) (hz : i.zero = some (.agg #[.bool false,.slice none 0 0,.bool false,.slice none 0 0]))
    (hs : i.size = 4) (hby : i.bytes = 64) (v : Value) (es : List FE) (hown : RowF e w base v es)
    (B : Nat) (A : Option Addr) (m c : Nat) (fs : List FE) (hr : Reads w B 4 A m (Zo fs)) (hm : fs.length = m) (h63 : es.length + m <= 1000) (hbase : base <= w.heap.size) :
    ∃ v' w',(Builtin.append_ #[t,t] ty #[v,.slice A m c]).run P w = .ok v' w' /\ RowF e w' base v' (es ++ fs) /\ w.grownBy w' v.ownBlock /\ (v'.ownBlock = v.ownBlock \/ ∀ k,v'.ownBlock = some k -> w.heap.size <= k):=by
 rcases Nat.eq_zero_or_pos m with h0 | h0
 ·subst h0
  obtain rfl : fs = []:=List.eq_nil_of_length_eq_zero hm;rw [List.append_nil]
  rcases A with _ | ad
  ·exact ⟨v,w,Zbi w base t ty e i 4 ht hi v _ _ hown.own c,hown,World.grownBy.refl w _,.inl rfl⟩
  ·have hf:=run_firstCells_some (P:=P) w i.size 0 ad 0 c [] (by simp) (by simp)
   rcases hown with ⟨rfl,rfl⟩ | ⟨g,sp,rfl,h2,h3,h4⟩
   ·refine ⟨.slice none 0 0,w,?_,.inl ⟨rfl,rfl⟩,World.grownBy.refl w _,.inl rfl⟩
    simp [Builtin.append_,run_underlying ht,sizeOf,typeInfo,hi,Builtin.lenOf,Builtin.firstCells,loadCells,loadCellsFrom]
   ·refine ⟨_,w,?_,.inr ⟨g,sp,rfl,h2,h3,h4⟩,World.grownBy.refl w _,.inl rfl⟩
    simp [Builtin.append_,run_underlying ht,sizeOf,typeInfo,hi,Builtin.lenOf,Builtin.firstCells,loadCells,loadCellsFrom,storeCells]
 ·obtain ⟨ad,rfl,_,hc⟩:=hr.2 h0
  have hl : (Zo fs).length = m * i.size:=by rw [Zv,hm,hs]
  have hle : es.length * i.size = (Zo es).length:=by rw [Zv,hs]
  rcases hown with ⟨rfl,rfl⟩ | ⟨g,sp,rfl,h2,h3,h4⟩
  ·have hrun:=run_append_nil (P:=P) w t ty e i _ ht hi hz ad m c (Zo fs) hl hc h0 (by omega) (by rw [hby];omega)
   have hge:=grownCap_ge w m 0 e;have hcm:=grownCap_le_maxLen w m 0 e (by unfold maxLen;simp only [List.length_nil] at h63;omega);refine ⟨_,_,hrun,.inr ⟨w.heap.size,grownCap w m 0 e - m,?_,hbase,?_,?_⟩,⟨rfl,rfl,rfl,by simp,fun k hk _=>Below.heap_alloc w.drew _ k hk⟩,.inr (fun k hk=>by first | (simp [Value.ownBlock] at hk;omega) | (cases hk;exact Nat.le_refl _))⟩
   ·rw [List.nil_append,hm,Nat.add_sub_cancel' hge]
   ·rw [List.nil_append,hm,Nat.add_sub_cancel' hge];exact hcm
   ·have:=heap_alloc_new w.drew (.cells ((Zo fs).toArray ++ Builtin.zeroCells (Value.agg #[.bool false,.slice none 0 0,.bool false,.slice none 0 0]).cells (grownCap w m 0 e - m)) e)
    unfold Blk;refine this.trans ?_
    congr 1
    have hx : (Zo fs).toArray ++ Builtin.zeroCells (Value.agg #[.bool false,.slice none 0 0,.bool false,.slice none 0 0]).cells (grownCap w m 0 e - m) = Z1 ([] ++ fs ++ List.replicate (grownCap w m 0 e - m) Zab):=by
     apply Array.toList_inj.1
     rw [Array.toList_append,show (Value.agg #[.bool false,.slice none 0 0,.bool false,.slice none 0 0]).cells = #[.bool false,.slice none 0 0,.bool false,.slice none 0 0] from rfl,Zcb]
     simp [Z1,Z6]
    rw [hx]
  ·by_cases hroom : m <= sp
   ·have hrun:=run_append_room (P:=P) w t ty e i ht hi g es.length (es.length + sp) _ h4 ad m c (Zo fs) hl hc (Zg8 fs) (by omega) (by rw [hle,Zv,Zv];simp [Z1,Zv];omega)
    refine ⟨_,_,hrun,.inr ⟨g,sp - m,?_,h2,?_,?_⟩,⟨rfl,rfl,rfl,by simp [World.setRow],fun k _ hk=>setRow_other w g k _ (fun e'=>hk (by simp [Value.ownBlock,e']))⟩,.inl rfl⟩
    ·rw [List.length_append,hm,show es.length + m + (sp - m) = es.length + sp by omega]
    ·rw [List.length_append,hm];omega
    ·refine (setRow_heap w g _ _ e _ h4).trans ?_
     congr 2
     unfold Z1
     congr 1
     rw [hle]
     have hrep : List.replicate sp Zab = List.replicate m Zab ++ List.replicate (sp - m) Zab:=by rw [List.replicate_append_replicate];congr 1;omega
     have hlm : (Zo fs).length = (Zo (List.replicate m Zab)).length:=by rw [Zv,Zv,hm,List.length_replicate]
     simp only [Z6];rw [List.take_left,hlm,<- List.length_append,hrep,Z6,<- List.append_assoc (Zo es),List.drop_left,List.append_assoc]
   ·have holds : ∀ j u,(Zo es)[j]? = some u -> w.cell? ((⟨g,0,none⟩ : Addr).add j) = some u:=fun j u hu=>by
      rw [Zg,Nat.zero_add,h4.cell];simp only [Z1,List.getElem?_toArray,Z6];rw [List.getElem?_append_left (by rw [List.getElem?_eq_some_iff] at hu;exact hu.1)];exact hu
    have hrun:=run_append_grow (P:=P) w t ty e i _ ht hi hz ⟨g,0,none⟩ es.length (es.length + sp) (Zo es) hle.symm holds ad m c (Zo fs) hl hc (by omega) (by omega) (growslice_fits (by omega) (by rw [hby];omega));have hge:=grownCap_ge w (es.length + m) (es.length + sp) e;have hcm:=grownCap_le_maxLen w (es.length + m) (es.length + sp) e (by unfold maxLen;omega);refine ⟨_,_,hrun,.inr ⟨w.heap.size,grownCap w (es.length + m) (es.length + sp) e - (es.length + m),?_,hbase,?_,?_⟩,⟨rfl,rfl,rfl,by simp,fun k hk _=>Below.heap_alloc w.drew _ k hk⟩,.inr (fun k hk=>by first | (simp [Value.ownBlock] at hk;omega) | (cases hk;exact Nat.le_refl _))⟩
    ·rw [List.length_append,hm,Nat.add_sub_cancel' hge]
    ·rw [List.length_append,hm,Nat.add_sub_cancel' hge];exact hcm
    ·have:=heap_alloc_new w.drew (.cells ((Zo es).toArray ++ (Zo fs).toArray ++ Builtin.zeroCells (Value.agg #[.bool false,.slice none 0 0,.bool false,.slice none 0 0]).cells (grownCap w (es.length + m) (es.length + sp) e - (es.length + m))) e)
     unfold Blk;refine this.trans ?_
     congr 1
     have hx : (Zo es).toArray ++ (Zo fs).toArray ++ Builtin.zeroCells (Value.agg #[.bool false,.slice none 0 0,.bool false,.slice none 0 0]).cells (grownCap w (es.length + m) (es.length + sp) e - (es.length + m)) = Z1 (es ++ fs ++ List.replicate (grownCap w (es.length + m) (es.length + sp) e - (es.length + m)) Zab):=by
      apply Array.toList_inj.1
      rw [Array.toList_append,Array.toList_append,show (Value.agg #[.bool false,.slice none 0 0,.bool false,.slice none 0 0]).cells = #[.bool false,.slice none 0 0,.bool false,.slice none 0 0] from rfl,Zcb]
      simp [Z1,Z6]
     rw [hx]
theorem Zam {o : Oper} {a : Act} {K : Act -> World -> Prop} {Q : Exit -> Act -> World -> Prop} (s x : Operand) (t : TypeId)
    (ho : o.op = .call { callee:=.builtin .append,args:=#[s,x],argTypes:=#[t,t] })
    (base : Nat) (e : TypeId) (i : TypeInfo) (ht : P.underlying t = some (.slice e)) (hi : P.info? e = some i) (hz : i.zero = some (.agg #[.bool false,.slice none 0 0,.bool false,.slice none 0 0])) (hsi : i.size = 4) (hby : i.bytes = 64)
    (v : Value) (qs : List Rat) (hs : a.eval s = v) (hown : OwnF e w base v qs)
    (B : Nat) (A : Option Addr) (m c : Nat) (fs : List FE) (hx : a.eval x = .slice A m c) (hr : Reads w B 4 A m (Zo fs)) (hm : fs.length = m) (hfs : ∀ e ∈ fs,e.in_ w)
    (h63 : qs.length + m <= 1000) (hbase : base <= w.heap.size)
    (h : ∀ v' w',OwnF e w' base v' (qs ++ fs.map FE.q) -> w.grownBy w' v.ownBlock -> (∀ (A : Option Addr) (n c : Nat) (l : List Nat),Lim w A n c l -> Lim w' A n c l) -> (v'.ownBlock = v.ownBlock \/ ∀ k,v'.ownBlock = some k -> w.heap.size <= k) -> K (a.put o.dst v') w') : o.wp P a w K Q:=by
 obtain ⟨es,h1,h2,rfl⟩:=hown;rw [List.length_map] at h63;obtain ⟨v',w',hrun,h3,h4,h5⟩:=Zgf (P:=P) w base t o.type e i ht hi hz hsi hby v es h1 B A m c fs hr hm h63 hbase;unfold Oper.wp execOp;simp only [ho,resolve,invoke,builtin,Sem.run_bind,Sem.run_pure,Result.andThen_ok,List.map_toArray,List.map_cons,List.map_nil,hs,hx,hrun]
 have hk : ∀ (A : Option Addr) (n c : Nat) (l : List Nat),Lim w A n c l -> Lim w' A n c l:=fun _ _ _ _ hL=>h1.keep h4 hL
 refine h v' w' ⟨es ++ fs,h3,fun e he=>?_,by rw [List.map_append]⟩ h4 hk h5
 rcases List.mem_append.1 he with he | he
 ·exact (h2 e he).of_keep hk
 ·exact (hfs e he).of_keep hk
end
section
variable {tS tF : TypeId} {w w' : World} {base go : Nat} {rs : List RS} {Q : List (List Rat)}
theorem OwnF.rsn {r : RS} {q : List Rat} (h : OwnF tF w base r.val q) : r.n = q.length /\ FL w r.A r.n r.c q:=by
 obtain ⟨A,c,e,hf⟩:=h.fl;simp only [RS.val,Value.slice.injEq] at e;obtain ⟨rfl,e2,rfl⟩:=e;refine ⟨e2,?_⟩;rw [e2];exact hf
end
theorem Zhc (k : Nat) : madeCells (Value.agg #[.bool false,.slice none 0 0,.bool false,.slice none 0 0]).cells (k * 4) = Z1 (List.replicate k Zab):=by
 apply Array.toList_inj.1
 show (madeCells #[.bool false,.slice none 0 0,.bool false,.slice none 0 0] (k * 4)).toList = Zo (List.replicate k Zab)
 apply List.ext_getElem?
 intro i
 by_cases h : i < k * 4
 ·have he : (List.replicate k Zab)[i / 4]? = some Zab:=by rw [List.getElem?_replicate,if_pos (by omega)]
  have hc:=Zfe he
  have h4 : i % 4 = 0 \/ i % 4 = 1 \/ i % 4 = 2 \/ i % 4 = 3:=by omega
  have hm : (madeCells #[.bool false,.slice none 0 0,.bool false,.slice none 0 0] (k * 4)).toList[i]? = some ((#[.bool false,.slice none 0 0,.bool false,.slice none 0 0] : Array Value)[i % 4]?.getD default):=by
   unfold madeCells
   simp [h]
  rw [hm]
  rcases h4 with h2 | h2 | h2 | h2
  ·rw [show i / 4 * 4 = i by omega] at hc;rw [hc.1,h2];rfl
  ·rw [show i / 4 * 4 + 1 = i by omega] at hc;rw [hc.2.1,h2];rfl
  ·rw [show i / 4 * 4 + 2 = i by omega] at hc;rw [hc.2.2.1,h2];rfl
  ·rw [show i / 4 * 4 + 3 = i by omega] at hc;rw [hc.2.2.2,h2];rfl
 ·have a1 : (Zo (List.replicate k Zab))[i]? = none:=List.getElem?_eq_none (by rw [Zv];simp;omega)
  have a2 : (madeCells #[.bool false,.slice none 0 0,.bool false,.slice none 0 0] (k * 4)).toList[i]? = none:=List.getElem?_eq_none (by unfold madeCells;simp;omega);rw [a1,a2]
section
variable {P : Program} (w : World)
end
def MatOA (tS tF : TypeId) (w : World) (base : Nat) (v : Value) (rs : List RS) (Q : List (List Rat)) : Prop:=
 RowS tS w base v rs /\ rs.length = Q.length /\ (∀ (i : Nat) (r : RS),rs[i]? = some r -> OwnF tF w base r.val (Q[i]?.getD [])) /\
  ∀ (i j : Nat) (r s : RS) (k : Nat),rs[i]? = some r -> rs[j]? = some s -> i ≠ j -> r.val.ownBlock = some k -> s.val.ownBlock ≠ some k
section
variable {tS tF : TypeId} {w w' : World} {base : Nat} {v v' : Value} {rs : List RS} {Q : List (List Rat)}
theorem MatOA.nil (tS tF : TypeId) (w : World) (base : Nat) : MatOA tS tF w base (.slice none 0 0) [] []:=⟨.inl ⟨rfl,rfl⟩,rfl,fun i r hr=>(by cases hr),fun i j r s k hr=>(by cases hr)⟩
theorem MatOA.kept (h : MatOA tS tF w base v rs Q) (hb : Below w.heap.size w w') : MatOA tS tF w' base v rs Q:=⟨h.1.kept hb,h.2.1,fun i r hr=>(h.2.2.1 i r hr).kept hb,h.2.2.2⟩
theorem OwnF.grownT (hts : tS ≠ tF) {q : List Rat} {b : Nat} {u : Value} (h : OwnF tF w b u q) {rs : List RS} (hv : RowS tS w base v rs) (hg : w.grownBy w' v.ownBlock) (hk : ∀ (A : Option Addr) (n c : Nat) (l : List Nat),Lim w A n c l -> Lim w' A n c l) : OwnF tF w' b u q:=by
 obtain ⟨es,e1,e2,e3⟩:=h;refine ⟨es,?_,fun e he=>⟨⟨(e2 e he).1.1,(e2 e he).1.2.1,hk _ _ _ _ (e2 e he).1.2.2⟩,⟨(e2 e he).2.1,(e2 e he).2.2.1,hk _ _ _ _ (e2 e he).2.2.2⟩⟩,e3⟩
 rcases e1 with e1 | ⟨g2,sp,e4,e5,e6,e7⟩
 ·exact .inl e1
 ·exact .inr ⟨g2,sp,e4,e5,e6,(hg.block g2 e7.lt (fun e=>hv.ownType e7 hts e.symm)).trans e7⟩
theorem OwnF.lower {b b' : Nat} {u : Value} {q : List Rat} (h : OwnF tF w b u q) (hb : b' <= b) : OwnF tF w b' u q:=by
 obtain ⟨es,e1,e2,e3⟩:=h;refine ⟨es,?_,e2,e3⟩
 rcases e1 with e1 | ⟨g2,sp,e4,e5,e6,e7⟩
 ·exact .inl e1
 ·exact .inr ⟨g2,sp,e4,Nat.le_trans hb e5,e6,e7⟩
theorem MatOA.snoc (h : MatOA tS tF w base v rs Q) (hts : tS ≠ tF) {r : RS} {q : List Rat} {b : Nat} (ho : OwnF tF w b r.val q) (hb : base <= b) (hlt : ∀ s ∈ rs,∀ k,s.val.ownBlock = some k -> k < b) (h1 : RowS tS w' base v' (rs ++ [r])) (hg : w.grownBy w' v.ownBlock) (hk : ∀ (A : Option Addr) (n c : Nat) (l : List Nat),Lim w A n c l -> Lim w' A n c l) :
    MatOA tS tF w' base v' (rs ++ [r]) (Q ++ [q]):=by
 obtain ⟨a1,a2,a3,a4⟩:=h;refine ⟨h1,by simp [a2],fun i s hs=>?_,fun i j s t k hs ht hij hsk=>?_⟩
 ·by_cases hi : i < rs.length
  ·rw [List.getElem?_append_left hi] at hs
   rw [List.getElem?_append_left (by omega)];exact (a3 i s hs).grownT hts a1 hg hk
  ·have hl:=(List.getElem?_eq_some_iff.1 hs).1
   rw [List.length_append,List.length_singleton] at hl
   obtain rfl : i = rs.length:=by omega
   rw [List.getElem?_append_right (Nat.le_refl _),Nat.sub_self] at hs
   cases hs
   rw [List.getElem?_append_right (by omega),a2,Nat.sub_self];exact (ho.lower hb).grownT hts a1 hg hk
 ·have new : ∀ (x : RS) (k : Nat),x ∈ rs -> x.val.ownBlock = some k -> r.val.ownBlock ≠ some k:=fun x k hx hxk e=>by
    have h2:=hlt x hx k hxk;obtain ⟨cs,-,-,h3⟩:=ho.ownBlk k e;omega
  have hli:=(List.getElem?_eq_some_iff.1 hs).1;have hlj:=(List.getElem?_eq_some_iff.1 ht).1;rw [List.length_append,List.length_singleton] at hli hlj
  by_cases hi : i < rs.length
  ·rw [List.getElem?_append_left hi] at hs
   by_cases hj : j < rs.length
   ·rw [List.getElem?_append_left hj] at ht
    exact a4 i j s t k hs ht hij hsk
   ·obtain rfl : j = rs.length:=by omega
    rw [List.getElem?_append_right (Nat.le_refl _),Nat.sub_self] at ht
    cases ht
    exact new s k (List.mem_of_getElem? hs) hsk
  ·obtain rfl : i = rs.length:=by omega
   rw [List.getElem?_append_right (Nat.le_refl _),Nat.sub_self] at hs
   cases hs
   rw [List.getElem?_append_left (by omega)] at ht
   exact fun e=>new t k (List.mem_of_getElem? ht) e hsk
end
end Go.Proofs.YtpehacgjclkhmaaGreat
