/- An append of numbers, and whose block it yields; what the -/
import Derived.Test.YtigdclhagmnopaaGreatZp36
set_option linter.unusedSimpArgs false
set_option linter.unusedVariables false
namespace Go.Proofs.YtigdclhagmnopaaGreat
open Go.RowKit
theorem Zc4 {P : Program} {ops : Array Oper} {Q : Exit -> Act -> World -> Prop} {md : Region.Mode} {L : List Nat} {S : World -> Prop} {i j : Nat} {oi oj : Oper} {fuel : Nat} {listed : Array Bool} {a : Act} {w : World} (hi : ops[i]? = some oi) (hj : ops[j]? = some oj) (hr : Region.ready md ops listed = [i,j])
    (h1 : ∀ K' : Act -> World -> Prop,Shut (∀ a w,(Zcs L (listed.setIfInBounds i true) = true -> S w) -> Zag P md ops Q L S fuel (listed.setIfInBounds i true) a w -> K' a w) -> if Region.wanted oi (yielded ops a.tmps) = true then Oper.wp P oi a w K' Q else K' (a.put oi.dst undef) w)
    (h2 : ∀ K' : Act -> World -> Prop,Shut (∀ a w,(Zcs L (listed.setIfInBounds j true) = true -> S w) -> Zag P md ops Q L S fuel (listed.setIfInBounds j true) a w -> K' a w) -> if Region.wanted oj (yielded ops a.tmps) = true then Oper.wp P oj a w K' Q else K' (a.put oj.dst undef) w) :
    Zag P md ops Q L S (fuel + 1) listed a w:=
 ⟨(fun h0=>by rw [h0] at hr;cases hr),fun k hk=>by
  rw [hr] at hk
  rcases List.mem_cons.1 hk with e | e
  ·subst e;exact wpOp_step hi (fun K' hK=>h1 K' (fun a w hS hW=>hK a w ⟨hS,hW⟩))
  ·rw [List.mem_singleton] at e;subst e;exact wpOp_step hj (fun K' hK=>h2 K' (fun a w hS hW=>hK a w ⟨hS,hW⟩))⟩
section
variable {P : Program} (w : World)
theorem Zju (base : Nat) (t ty e : TypeId) (i : TypeInfo) (ht : P.underlying t = some (.slice e)) (hi : P.info? e = some i) (hz : i.zero = some (.agg #[.bool false,.slice none 0 0]))
    (hs : i.size = 2) (hby : i.bytes = 32) (v : Value) (es : List WE) (hown : RowW e w base v es)
    (B : Nat) (A : Option Addr) (m c : Nat) (fs : List WE) (hr : Reads w B 2 A m (Zai fs)) (hm : fs.length = m) (h63 : es.length + m <= 1000) (hbase : base <= w.heap.size) :
    ∃ v' w',(Builtin.append_ #[t,t] ty #[v,.slice A m c]).run P w = .ok v' w' /\ RowW e w' base v' (es ++ fs) /\ w.grownBy w' v.ownBlock /\ (v'.ownBlock = v.ownBlock \/ ∀ k,v'.ownBlock = some k -> w.heap.size <= k):=by
 rcases Nat.eq_zero_or_pos m with h0 | h0
 ·subst h0
  obtain rfl : fs = []:=List.eq_nil_of_length_eq_zero hm;rw [List.append_nil]
  rcases A with _ | ad
  ·exact ⟨v,w,Zbv w base t ty e i 2 ht hi v _ _ hown.own c,hown,World.grownBy.refl w _,.inl rfl⟩
  ·have hf:=run_firstCells_some (P:=P) w i.size 0 ad 0 c [] (by simp) (by simp)
   rcases hown with ⟨rfl,rfl⟩ | ⟨g,sp,rfl,h2,h3,h4⟩
   ·refine ⟨.slice none 0 0,w,?_,.inl ⟨rfl,rfl⟩,World.grownBy.refl w _,.inl rfl⟩
    simp [Builtin.append_,run_underlying ht,sizeOf,typeInfo,hi,Builtin.lenOf,Builtin.firstCells,loadCells,loadCellsFrom]
   ·refine ⟨_,w,?_,.inr ⟨g,sp,rfl,h2,h3,h4⟩,World.grownBy.refl w _,.inl rfl⟩
    simp [Builtin.append_,run_underlying ht,sizeOf,typeInfo,hi,Builtin.lenOf,Builtin.firstCells,loadCells,loadCellsFrom,storeCells]
 ·obtain ⟨ad,rfl,_,hc⟩:=hr.2 h0
  have hl : (Zai fs).length = m * i.size:=by rw [Za0,hm,hs]
  have hle : es.length * i.size = (Zai es).length:=by rw [Za0,hs]
  rcases hown with ⟨rfl,rfl⟩ | ⟨g,sp,rfl,h2,h3,h4⟩
  ·have hrun:=run_append_nil (P:=P) w t ty e i _ ht hi hz ad m c (Zai fs) hl hc h0 (by omega) (by rw [hby];omega)
   have hge:=grownCap_ge w m 0 e;have hcm:=grownCap_le_maxLen w m 0 e (by unfold maxLen;simp only [List.length_nil] at h63;omega);refine ⟨_,_,hrun,.inr ⟨w.heap.size,grownCap w m 0 e - m,?_,hbase,?_,?_⟩,⟨rfl,rfl,rfl,by simp,fun k hk _=>Below.heap_alloc w.drew _ k hk⟩,.inr (fun k hk=>by first | (simp [Value.ownBlock] at hk;omega) | (cases hk;exact Nat.le_refl _))⟩
   ·rw [List.nil_append,hm,Nat.add_sub_cancel' hge]
   ·rw [List.nil_append,hm,Nat.add_sub_cancel' hge];exact hcm
   ·have:=heap_alloc_new w.drew (.cells ((Zai fs).toArray ++ Builtin.zeroCells (Value.agg #[.bool false,.slice none 0 0]).cells (grownCap w m 0 e - m)) e)
    unfold Blk;refine this.trans ?_
    congr 1
    have hx : (Zai fs).toArray ++ Builtin.zeroCells (Value.agg #[.bool false,.slice none 0 0]).cells (grownCap w m 0 e - m) = Zbc ([] ++ fs ++ List.replicate (grownCap w m 0 e - m) Zb7):=by
     apply Array.toList_inj.1
     rw [Array.toList_append,show (Value.agg #[.bool false,.slice none 0 0]).cells = #[.bool false,.slice none 0 0] from rfl,Zhe]
     simp [Zbc,Zcd]
    rw [hx]
  ·by_cases hroom : m <= sp
   ·have hrun:=run_append_room (P:=P) w t ty e i ht hi g es.length (es.length + sp) _ h4 ad m c (Zai fs) hl hc (Zqk fs) (by omega) (by rw [hle,Za0,Za0];simp [Zbc,Za0];omega)
    refine ⟨_,_,hrun,.inr ⟨g,sp - m,?_,h2,?_,?_⟩,⟨rfl,rfl,rfl,by simp [World.setRow],fun k _ hk=>setRow_other w g k _ (fun e'=>hk (by simp [Value.ownBlock,e']))⟩,.inl rfl⟩
    ·rw [List.length_append,hm,show es.length + m + (sp - m) = es.length + sp by omega]
    ·rw [List.length_append,hm];omega
    ·refine (setRow_heap w g _ _ e _ h4).trans ?_
     congr 2
     unfold Zbc
     congr 1
     rw [hle]
     have hrep : List.replicate sp Zb7 = List.replicate m Zb7 ++ List.replicate (sp - m) Zb7:=by rw [List.replicate_append_replicate];congr 1;omega
     have hlm : (Zai fs).length = (Zai (List.replicate m Zb7)).length:=by rw [Za0,Za0,hm,List.length_replicate]
     simp only [Zcd];rw [List.take_left,hlm,<- List.length_append,hrep,Zcd,<- List.append_assoc (Zai es),List.drop_left,List.append_assoc]
   ·have holds : ∀ j u,(Zai es)[j]? = some u -> w.cell? ((⟨g,0,none⟩ : Addr).add j) = some u:=fun j u hu=>by
      rw [Zh,Nat.zero_add,h4.cell];simp only [Zbc,List.getElem?_toArray,Zcd];rw [List.getElem?_append_left (by rw [List.getElem?_eq_some_iff] at hu;exact hu.1)];exact hu
    have hrun:=run_append_grow (P:=P) w t ty e i _ ht hi hz ⟨g,0,none⟩ es.length (es.length + sp) (Zai es) hle.symm holds ad m c (Zai fs) hl hc (by omega) (by omega) (growslice_fits (by omega) (by rw [hby];omega));have hge:=grownCap_ge w (es.length + m) (es.length + sp) e;have hcm:=grownCap_le_maxLen w (es.length + m) (es.length + sp) e (by unfold maxLen;omega);refine ⟨_,_,hrun,.inr ⟨w.heap.size,grownCap w (es.length + m) (es.length + sp) e - (es.length + m),?_,hbase,?_,?_⟩,⟨rfl,rfl,rfl,by simp,fun k hk _=>Below.heap_alloc w.drew _ k hk⟩,.inr (fun k hk=>by first | (simp [Value.ownBlock] at hk;omega) | (cases hk;exact Nat.le_refl _))⟩
    ·rw [List.length_append,hm,Nat.add_sub_cancel' hge]
    ·rw [List.length_append,hm,Nat.add_sub_cancel' hge];exact hcm
    ·have:=heap_alloc_new w.drew (.cells ((Zai es).toArray ++ (Zai fs).toArray ++ Builtin.zeroCells (Value.agg #[.bool false,.slice none 0 0]).cells (grownCap w (es.length + m) (es.length + sp) e - (es.length + m))) e)
     unfold Blk;refine this.trans ?_
     congr 1
     have hx : (Zai es).toArray ++ (Zai fs).toArray ++ Builtin.zeroCells (Value.agg #[.bool false,.slice none 0 0]).cells (grownCap w (es.length + m) (es.length + sp) e - (es.length + m)) = Zbc (es ++ fs ++ List.replicate (grownCap w (es.length + m) (es.length + sp) e - (es.length + m)) Zb7):=by
      apply Array.toList_inj.1
      rw [Array.toList_append,Array.toList_append,show (Value.agg #[.bool false,.slice none 0 0]).cells = #[.bool false,.slice none 0 0] from rfl,Zhe]
      simp [Zbc,Zcd]
     rw [hx]
theorem Zb1 {o : Oper} {a : Act} {K : Act -> World -> Prop} {Q : Exit -> Act -> World -> Prop} (s x : Operand) (t : TypeId)
    (ho : o.op = .call { callee:=.builtin .append,args:=#[s,x],argTypes:=#[t,t] })
    (base : Nat) (e : TypeId) (i : TypeInfo) (ht : P.underlying t = some (.slice e)) (hi : P.info? e = some i) (hz : i.zero = some (.agg #[.bool false,.slice none 0 0])) (hsi : i.size = 2) (hby : i.bytes = 32)
    (v : Value) (xs : List Int) (hs : a.eval s = v) (hown : OwnP e w base v xs)
    (B : Nat) (A : Option Addr) (m c : Nat) (fs : List WE) (hx : a.eval x = .slice A m c) (hr : Reads w B 2 A m (Zai fs)) (hm : fs.length = m) (hfs : ∀ e ∈ fs,Lim w e.A e.n e.c e.l /\ e.ok = true)
    (h63 : xs.length + m <= 1000) (hbase : base <= w.heap.size)
    (h : ∀ v' w',OwnP e w' base v' (xs ++ fs.map WE.num) -> w.grownBy w' v.ownBlock -> (∀ (A : Option Addr) (n c : Nat) (l : List Nat),Lim w A n c l -> Lim w' A n c l) -> (v'.ownBlock = v.ownBlock \/ ∀ k,v'.ownBlock = some k -> w.heap.size <= k) -> K (a.put o.dst v') w') : o.wp P a w K Q:=by
 obtain ⟨es,h1,h2,rfl⟩:=hown;rw [List.length_map] at h63;obtain ⟨v',w',hrun,h3,h4,h5⟩:=Zju (P:=P) w base t o.type e i ht hi hz hsi hby v es h1 B A m c fs hr hm h63 hbase;unfold Oper.wp execOp;simp only [ho,resolve,invoke,builtin,Sem.run_bind,Sem.run_pure,Result.andThen_ok,List.map_toArray,List.map_cons,List.map_nil,hs,hx,hrun]
 have hk : ∀ (A : Option Addr) (n c : Nat) (l : List Nat),Lim w A n c l -> Lim w' A n c l:=fun _ _ _ _ hL=>h1.keep h4 hL
 refine h v' w' ⟨es ++ fs,h3,fun e he=>?_,by rw [List.map_append]⟩ h4 hk h5
 rcases List.mem_append.1 he with he | he
 ·exact ⟨hk _ _ _ _ (h2 e he).1,(h2 e he).2⟩
 ·exact ⟨hk _ _ _ _ (hfs e he).1,(hfs e he).2⟩
end
end Go.Proofs.YtigdclhagmnopaaGreat
