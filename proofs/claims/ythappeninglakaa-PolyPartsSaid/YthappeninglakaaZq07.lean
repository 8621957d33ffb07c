/- Package poly: times, Mul. Appends onto a row of whole -/
import Derived.Test.YthappeninglakaaZq06
set_option maxRecDepth 100000
set_option maxHeartbeats 4000000
set_option linter.unusedSimpArgs false
set_option linter.unusedVariables false
namespace Go.Proofs.Ythappeninglakaa
open Go.RowKit
attribute [local go_sem] Zj
theorem PolyL.shut {w : World} {A : Option Addr} {n c k : Nat} {xs : List Int} (h : PolyL w A n c xs) (hk : k <= n) : PolyL w A k k (xs.take k):=by
 obtain ⟨es,h1,h2,h3⟩:=h.take hk;exact ⟨es,⟨h1.1,Nat.le_refl _,Nat.le_trans h1.2.1 h1.2.2.1,h1.2.2.2⟩,h2,h3⟩
theorem Znl {i : Nat} {z : Int} (hi : i <= 20) (h : z.natAbs <= (i + 1) * (pw 40 * pw 40)) : z.natAbs < pw 4096:=by
 have h1:=Zdn (show 82 <= 4096 by omega);rw [show pw 82 = 4294967296 * (4294967296 * (pw 40 * pw 40)) by rw [Zal,Zal,show 80 = 40 + 40 by rfl,Zco]] at h1;have h2 : 0 < pw 40 * pw 40:=Nat.mul_pos (Za7 _) (Za7 _);have h3 : (i + 1) * (pw 40 * pw 40) <= 21 * (pw 40 * pw 40):=Nat.mul_le_mul_right _ (by omega)
 generalize pw 40 * pw 40 = M at *
 omega
def Zi8 (w : World) (xs : List Int) (e : Ending) (w' : World) : Prop:=∃ A n c,e = .returned (.slice A n c) /\ PolyL w' A n c xs /\ Below w.heap.size w w'
theorem Zb6 (es fs : List WE) : Z0 (es ++ fs) = Z0 es ++ Z0 fs:=by
 induction es with
 | nil=>rfl
 | cons e l ih=>simp only [List.cons_append,Z0,ih]
theorem Zoq (fs : List WE) : ∀ u ∈ Z0 fs,u.oneCell' = true:=by
 induction fs with
 | nil=>intro u h;simp [Z0] at h
 | cons e l ih =>
  intro u h;simp only [Z0,List.mem_cons] at h
  rcases h with rfl | rfl | h
  ·rfl
  ·rfl
  ·exact ih u h
theorem Zgy (k : Nat) : (Builtin.zeroCells #[.bool false,.slice none 0 0] k).toList = Z0 (List.replicate k Zao):=by
 rw [Ziy];unfold Builtin.zeroCells madeCells
 apply List.ext_getElem?
 intro i
 by_cases h : i < k * 2
 ·simp [h]
 ·simp [h]
def RowW (t : TypeId) (w : World) (base : Nat) (v : Value) (es : List WE) : Prop:=
 (v = .slice none 0 0 /\ es = []) \/ ∃ g sp,v = .slice (some ⟨g,0,none⟩) es.length (es.length + sp) /\ base <= g /\ es.length + sp <= maxLen /\ Blk w g t (Zad (es ++ List.replicate sp Zao))
section
variable {t : TypeId} {w w' : World} {base : Nat} {v : Value} {es : List WE}
theorem RowW.own (h : RowW t w base v es) : w.ownsRow base t 2 v es.length (Z0 es):=by
 refine ⟨Zah es,?_⟩
 rcases h with ⟨h1,rfl⟩ | ⟨g,sp,h1,h2,h3,h4⟩
 ·exact .inl ⟨h1,rfl⟩
 ·refine .inr ⟨g,_,_,h1,h2,h4,Nat.le_add_right _ _,h3,?_,?_⟩
  ·simp [Zad,Zah]
  ·simp only [Zad]
   rw [Zb6,<- Zah es];exact List.take_left
theorem RowW.row_ge (h : RowW t w base v es) : ∀ k,v.ownBlock = some k -> base <= k:=fun k hk=>(h.own.lt k hk).1
theorem RowW.kept (h : RowW t w base v es) (hb : Below w.heap.size w w') : RowW t w' base v es:=by
 rcases h with h | ⟨g,sp,h1,h2,h3,h4⟩
 ·exact .inl h
 ·exact .inr ⟨g,sp,h1,h2,h3,Zd hb h4⟩
theorem RowW.keep (h : RowW t w base v es) (hg : w.grownBy w' v.ownBlock) {A : Option Addr} {n c : Nat} {l : List Nat} (hL : Lim w A n c l) : Lim w' A n c l:=by
 refine ⟨hL.1,hL.2.1,hL.2.2.1,hL.2.2.2.1,fun hn=>?_⟩;obtain ⟨b,o,e,hc⟩:=hL.2.2.2.2 hn;refine ⟨b,o,e,fun k hk=>?_⟩;rw [<- hc k hk];refine World.cell?_of_block (hg.block b (Zn (hc k hk)) (fun e'=>?_))
 rcases h with ⟨rfl,_⟩ | ⟨g,sp,rfl,_,_,h4⟩
 ·cases e'
 ·have hbg : b = g:=by simpa [Value.ownBlock] using e'
  subst hbg;have h1:=hc k hk;rw [h4.cell] at h1;exact Zb7 _ _ _ h1
end
section
variable {P : Program} (w : World)
theorem Zf1 (base : Nat) (t ty e : TypeId) (i : TypeInfo) (ht : P.underlying t = some (.slice e)) (hi : P.info? e = some i) (hz : i.zero = some (.agg #[.bool false,.slice none 0 0]))
    (hs : i.size = 2) (hby : i.bytes = 32) (v : Value) (es : List WE) (hown : RowW e w base v es)
    (B : Nat) (A : Option Addr) (m c : Nat) (fs : List WE) (hr : Reads w B 2 A m (Z0 fs)) (hm : fs.length = m) (h63 : es.length + m <= 1000) (hbase : base <= w.heap.size) :
    ∃ v' w',(Builtin.append_ #[t,t] ty #[v,.slice A m c]).run P w = .ok v' w' /\ RowW e w' base v' (es ++ fs) /\ w.grownBy w' v.ownBlock:=by
 rcases Nat.eq_zero_or_pos m with h0 | h0
 ·subst h0
  obtain rfl : fs = []:=List.eq_nil_of_length_eq_zero hm;rw [List.append_nil]
  rcases A with _ | ad
  ·exact ⟨v,w,Zc6 w base t ty e i 2 ht hi v _ _ hown.own c,hown,World.grownBy.refl w _⟩
  ·have hf:=run_firstCells_some (P:=P) w i.size 0 ad 0 c [] (by simp) (by simp)
   rcases hown with ⟨rfl,rfl⟩ | ⟨g,sp,rfl,h2,h3,h4⟩
   ·refine ⟨.slice none 0 0,w,?_,.inl ⟨rfl,rfl⟩,World.grownBy.refl w _⟩
    simp [Builtin.append_,run_underlying ht,sizeOf,typeInfo,hi,Builtin.lenOf,Builtin.firstCells,loadCells,loadCellsFrom]
   ·refine ⟨_,w,?_,.inr ⟨g,sp,rfl,h2,h3,h4⟩,World.grownBy.refl w _⟩
    simp [Builtin.append_,run_underlying ht,sizeOf,typeInfo,hi,Builtin.lenOf,Builtin.firstCells,loadCells,loadCellsFrom,storeCells]
 ·obtain ⟨ad,rfl,_,hc⟩:=hr.2 h0
  have hl : (Z0 fs).length = m * i.size:=by rw [Zah,hm,hs]
  have hle : es.length * i.size = (Z0 es).length:=by rw [Zah,hs]
  rcases hown with ⟨rfl,rfl⟩ | ⟨g,sp,rfl,h2,h3,h4⟩
  ·have hrun:=run_append_nil (P:=P) w t ty e i _ ht hi hz ad m c (Z0 fs) hl hc h0 (by omega) (by rw [hby];omega)
   have hge:=grownCap_ge w m 0 e;have hcm:=grownCap_le_maxLen w m 0 e (by unfold maxLen;simp only [List.length_nil] at h63;omega);refine ⟨_,_,hrun,.inr ⟨w.heap.size,grownCap w m 0 e - m,?_,hbase,?_,?_⟩,⟨rfl,rfl,rfl,by simp,fun k hk _=>Below.heap_alloc w.drew _ k hk⟩⟩
   ·rw [List.nil_append,hm,Nat.add_sub_cancel' hge]
   ·rw [List.nil_append,hm,Nat.add_sub_cancel' hge];exact hcm
   ·have:=heap_alloc_new w.drew (.cells ((Z0 fs).toArray ++ Builtin.zeroCells (Value.agg #[.bool false,.slice none 0 0]).cells (grownCap w m 0 e - m)) e)
    unfold Blk;refine this.trans ?_
    congr 1
    have hx : (Z0 fs).toArray ++ Builtin.zeroCells (Value.agg #[.bool false,.slice none 0 0]).cells (grownCap w m 0 e - m) = Zad ([] ++ fs ++ List.replicate (grownCap w m 0 e - m) Zao):=by
     apply Array.toList_inj.1
     rw [Array.toList_append,show (Value.agg #[.bool false,.slice none 0 0]).cells = #[.bool false,.slice none 0 0] from rfl,Zgy]
     simp [Zad,Zb6]
    rw [hx]
  ·by_cases hroom : m <= sp
   ·have hrun:=run_append_room (P:=P) w t ty e i ht hi g es.length (es.length + sp) _ h4 ad m c (Z0 fs) hl hc (Zoq fs) (by omega) (by rw [hle,Zah,Zah];simp [Zad,Zah];omega)
    refine ⟨_,_,hrun,.inr ⟨g,sp - m,?_,h2,?_,?_⟩,⟨rfl,rfl,rfl,by simp [World.setRow],fun k _ hk=>setRow_other w g k _ (fun e'=>hk (by simp [Value.ownBlock,e']))⟩⟩
    ·rw [List.length_append,hm,show es.length + m + (sp - m) = es.length + sp by omega]
    ·rw [List.length_append,hm];omega
    ·refine (setRow_heap w g _ _ e _ h4).trans ?_
     congr 2
     unfold Zad
     congr 1
     rw [hle]
     have hrep : List.replicate sp Zao = List.replicate m Zao ++ List.replicate (sp - m) Zao:=by rw [List.replicate_append_replicate];congr 1;omega
     have hlm : (Z0 fs).length = (Z0 (List.replicate m Zao)).length:=by rw [Zah,Zah,hm,List.length_replicate]
     simp only [Zb6];rw [List.take_left,hlm,<- List.length_append,hrep,Zb6,<- List.append_assoc (Z0 es),List.drop_left,List.append_assoc]
   ·have holds : ∀ j u,(Z0 es)[j]? = some u -> w.cell? ((⟨g,0,none⟩ : Addr).add j) = some u:=fun j u hu=>by
      rw [Zj,Nat.zero_add,h4.cell];simp only [Zad,List.getElem?_toArray,Zb6];rw [List.getElem?_append_left (by rw [List.getElem?_eq_some_iff] at hu;exact hu.1)];exact hu
    have hrun:=run_append_grow (P:=P) w t ty e i _ ht hi hz ⟨g,0,none⟩ es.length (es.length + sp) (Z0 es) hle.symm holds ad m c (Z0 fs) hl hc (by omega) (by omega) (growslice_fits (by omega) (by rw [hby];omega));have hge:=grownCap_ge w (es.length + m) (es.length + sp) e;have hcm:=grownCap_le_maxLen w (es.length + m) (es.length + sp) e (by unfold maxLen;omega);refine ⟨_,_,hrun,.inr ⟨w.heap.size,grownCap w (es.length + m) (es.length + sp) e - (es.length + m),?_,hbase,?_,?_⟩,⟨rfl,rfl,rfl,by simp,fun k hk _=>Below.heap_alloc w.drew _ k hk⟩⟩
    ·rw [List.length_append,hm,Nat.add_sub_cancel' hge]
    ·rw [List.length_append,hm,Nat.add_sub_cancel' hge];exact hcm
    ·have:=heap_alloc_new w.drew (.cells ((Z0 es).toArray ++ (Z0 fs).toArray ++ Builtin.zeroCells (Value.agg #[.bool false,.slice none 0 0]).cells (grownCap w (es.length + m) (es.length + sp) e - (es.length + m))) e)
     unfold Blk;refine this.trans ?_
     congr 1
     have hx : (Z0 es).toArray ++ (Z0 fs).toArray ++ Builtin.zeroCells (Value.agg #[.bool false,.slice none 0 0]).cells (grownCap w (es.length + m) (es.length + sp) e - (es.length + m)) = Zad (es ++ fs ++ List.replicate (grownCap w (es.length + m) (es.length + sp) e - (es.length + m)) Zao):=by
      apply Array.toList_inj.1
      rw [Array.toList_append,Array.toList_append,show (Value.agg #[.bool false,.slice none 0 0]).cells = #[.bool false,.slice none 0 0] from rfl,Zgy]
      simp [Zad,Zb6]
     rw [hx]
end
def OwnP (t : TypeId) (w : World) (base : Nat) (v : Value) (xs : List Int) : Prop:=∃ es,RowW t w base v es /\ (∀ e ∈ es,Lim w e.A e.n e.c e.l /\ e.ok = true) /\ es.map WE.num = xs
section
variable {t : TypeId} {w w' : World} {base : Nat} {v : Value} {xs : List Int}
theorem OwnP.nil (t : TypeId) (w : World) (base : Nat) : OwnP t w base (.slice none 0 0) []:=⟨[],.inl ⟨rfl,rfl⟩,fun e h=>by simp at h,rfl⟩
theorem OwnP.kept (h : OwnP t w base v xs) (hb : Below w.heap.size w w') : OwnP t w' base v xs:=by
 obtain ⟨es,h1,h2,h3⟩:=h;exact ⟨es,h1.kept hb,fun e he=>⟨(h2 e he).1.below hb,(h2 e he).2⟩,h3⟩
theorem OwnP.alloc (h : OwnP t w base v xs) (o : Obj) : OwnP t (w.alloc o) base v xs:=h.kept ((Below.refl _ _).alloc (Nat.le_refl _) _)
theorem OwnP.row_ge (h : OwnP t w base v xs) : ∀ k,v.ownBlock = some k -> base <= k:=by obtain ⟨es,h1,_⟩:=h;exact h1.row_ge
theorem OwnP.poly (h : OwnP t w base v xs) : ∃ A c,v = .slice A xs.length c /\ PolyL w A xs.length c xs:=by
 obtain ⟨es,h1,h2,rfl⟩:=h
 rcases h1 with ⟨rfl,rfl⟩ | ⟨g,sp,rfl,h4,h5,h6⟩
 ·exact ⟨none,0,rfl,[],⟨rfl,Nat.le_refl _,Nat.zero_le _,fun h=>absurd h (by simp),fun e h=>by simp at h⟩,rfl,fun e h=>by simp at h⟩
 ·rw [List.length_map]
  refine ⟨_,es.length + sp,rfl,es,⟨rfl,Nat.le_add_right _ _,h5,fun _=>⟨g,0,rfl,fun k e he=>?_⟩,fun e he=>(h2 e he).1⟩,rfl,fun e he=>(h2 e he).2⟩;have hk : k < es.length:=(List.getElem?_eq_some_iff.1 he).1;have hc:=Zd7 (es:=es ++ List.replicate sp Zao) (i:=k) (e:=e) (by rw [List.getElem?_append_left hk];exact he);rw [Nat.zero_add,h6.cell,h6.cell];exact hc
theorem Zjz (b : Bool) (A : Option Addr) (n c : Nat) : NoLimb #[.bool b,.slice A n c]:=fun i x=>by
 match i with
 | 0=>simp
 | 1=>simp
 | i + 2=>simp
end
theorem OwnP.snoc {t : TypeId} {w : World} {base : Nat} {v : Value} {xs : List Int} {neg : Bool} {A : Option Addr} {n c : Nat} {z : Int} {W : World} (h : OwnP t w base v (xs ++ [⟨neg,A,n,c,digits z.natAbs⟩].map WE.num)) (hW : Wd W neg A n c z) : OwnP t w base v (xs ++ [z]):=by
 rw [List.map_cons,List.map_nil,show WE.num ⟨neg,A,n,c,digits z.natAbs⟩ = z from hW.sgEq] at h;exact h
theorem Zoc (t : TypeId) {B : Nat} {w0 w : World} {neg : Bool} {A : Option Addr} {n c : Nat} {z : Int} (hB : Below B w0 w) (hs : B <= w.heap.size) (hW : Wd w neg A n c z) :
    ∃ W,w.alloc (.cells #[.bool neg,.slice A n c] t) = W /\ Below B w0 W /\ Hid (Blk W w.heap.size t #[.bool neg,.slice A n c]) /\ Wd W neg A n c z:=
 ⟨_,rfl,hB.alloc hs _,Blk.new _ _ _,hW.alloc _⟩
theorem Zol {t : TypeId} {B : Nat} {w0 w : World} {g : Nat} {b0 : Bool} {A0 : Option Addr} {n0 c0 : Nat} {neg : Bool} {A : Option Addr} {n c : Nat} {z : Int} (hB : Below B w0 w) (hs : B <= g) (hb : Blk w g t #[.bool b0,.slice A0 n0 c0]) (hW : Wd w neg A n c z) :
    ∃ W,(w.setCell ⟨g,0,none⟩ (.bool neg)).setCell ⟨g,1,none⟩ (.slice A n c) = W /\ Below B w0 W /\ Hid (Blk W g t #[.bool neg,.slice A n c]) /\ Wd W neg A n c z:=by
 have hb1 : Blk (w.setCell ⟨g,0,none⟩ (.bool neg)) g t #[.bool neg,.slice A0 n0 c0]:=hb.set_ 0 (.bool neg);have hb2 : Blk ((w.setCell ⟨g,0,none⟩ (.bool neg)).setCell ⟨g,1,none⟩ (.slice A n c)) g t #[.bool neg,.slice A n c]:=hb1.set_ 1 (.slice A n c);refine ⟨_,rfl,(hB.setCell (p:=⟨g,0,none⟩) hs _).setCell (p:=⟨g,1,none⟩) hs _,hb2,hW.1,hW.2.1,?_⟩;exact (hW.2.2.set_box hb (Zjz _ _ _ _) _ _).set_box hb1 (Zjz _ _ _ _) _ _
theorem Zdu (w : World) (neg : Bool) (A : Option Addr) (n c : Nat) (l : List Nat) (t : TypeId) : Reads (w.alloc (.cells #[.bool neg,.slice A n c] t)) (w.heap.size + 1) 2 (some ⟨w.heap.size,0,none⟩) 1 (Z0 [⟨neg,A,n,c,l⟩]):=
 ⟨rfl,fun _=>⟨_,rfl,Nat.lt_succ_self _,fun j u hu=>by
  rw [Zj,Nat.zero_add,(Blk.new w t #[.bool neg,.slice A n c]).cell]
  simpa [Z0] using hu⟩⟩
section
variable {P : Program} (w : World)
theorem Zk2 {o : Oper} {a : Act} {K : Act -> World -> Prop} {Q : Exit -> Act -> World -> Prop} (s x : Operand) (t : TypeId)
    (ho : o.op = .call { callee:=.builtin .append,args:=#[s,x],argTypes:=#[t,t] })
    (base : Nat) (e : TypeId) (i : TypeInfo) (ht : P.underlying t = some (.slice e)) (hi : P.info? e = some i) (hz : i.zero = some (.agg #[.bool false,.slice none 0 0])) (hsi : i.size = 2) (hby : i.bytes = 32)
    (v : Value) (xs : List Int) (hs : a.eval s = v) (hown : OwnP e w base v xs)
    (B : Nat) (A : Option Addr) (m c : Nat) (fs : List WE) (hx : a.eval x = .slice A m c) (hr : Reads w B 2 A m (Z0 fs)) (hm : fs.length = m) (hfs : ∀ e ∈ fs,Lim w e.A e.n e.c e.l /\ e.ok = true)
    (h63 : xs.length + m <= 1000) (hbase : base <= w.heap.size)
    (h : ∀ v' w',OwnP e w' base v' (xs ++ fs.map WE.num) -> w.grownBy w' v.ownBlock -> (∀ (A : Option Addr) (n c : Nat) (l : List Nat),Lim w A n c l -> Lim w' A n c l) -> K (a.put o.dst v') w') : o.wp P a w K Q:=by
 obtain ⟨es,h1,h2,rfl⟩:=hown;rw [List.length_map] at h63;obtain ⟨v',w',hrun,h3,h4⟩:=Zf1 (P:=P) w base t o.type e i ht hi hz hsi hby v es h1 B A m c fs hr hm h63 hbase;unfold Oper.wp execOp;simp only [ho,resolve,invoke,builtin,Sem.run_bind,Sem.run_pure,Result.andThen_ok,List.map_toArray,List.map_cons,List.map_nil,hs,hx,hrun]
 have hk : ∀ (A : Option Addr) (n c : Nat) (l : List Nat),Lim w A n c l -> Lim w' A n c l:=fun _ _ _ _ hL=>h1.keep h4 hL
 refine h v' w' ⟨es ++ fs,h3,fun e he=>?_,by rw [List.map_append]⟩ h4 hk
 rcases List.mem_append.1 he with he | he
 ·exact ⟨hk _ _ _ _ (h2 e he).1,(h2 e he).2⟩
 ·exact ⟨hk _ _ _ _ (hfs e he).1,(hfs e he).2⟩
theorem Zaa {ops : Array Oper} {rest : List Oper} {o : Oper} {a : Act} {Q : Exit -> Act -> World -> Prop} (hgd : o.guard = none) (s x : Operand) (t : TypeId)
    (ho : o.op = .call { callee:=.builtin .append,args:=#[s,x],argTypes:=#[t,t] })
    (base : Nat) (e : TypeId) (i : TypeInfo) (ht : P.underlying t = some (.slice e)) (hi : P.info? e = some i) (hz : i.zero = some (.agg #[.bool false,.slice none 0 0])) (hsi : i.size = 2) (hby : i.bytes = 32)
    (v : Value) (xs : List Int) (hs : a.eval s = v) (hown : OwnP e w base v xs)
    (B : Nat) (A : Option Addr) (m c : Nat) (fs : List WE) (hx : a.eval x = .slice A m c) (hr : Reads w B 2 A m (Z0 fs)) (hm : fs.length = m) (hfs : ∀ e ∈ fs,Lim w e.A e.n e.c e.l /\ e.ok = true)
    (h63 : xs.length + m <= 1000) (hbase : base <= w.heap.size)
    (h : ∀ v' w',OwnP e w' base v' (xs ++ fs.map WE.num) -> w.grownBy w' v.ownBlock -> (∀ (A : Option Addr) (n c : Nat) (l : List Nat),Lim w A n c l -> Lim w' A n c l) -> wpList P ops Q rest (a.put o.dst v') w') : wpList P ops Q (o :: rest) a w:=
 wpList_plain hgd fun _ hK=>Zk2 w s x t ho base e i ht hi hz hsi hby v xs hs hown B A m c fs hx hr hm hfs h63 hbase fun v' w' h2 h3 h4=>hK _ _ (h v' w' h2 h3 h4)
end
theorem Zlk (xs : List Int) {i : Nat} (h : 0 < i) : (List.range (i - 1)).map (fun j=>xs[j + 1]?.getD 0 * ((j + 1 : Nat) : Int)) ++ [xs[i]?.getD 0 * (i : Int)] = (List.range (i + 1 - 1)).map (fun j=>xs[j + 1]?.getD 0 * ((j + 1 : Nat) : Int)):=by
 obtain ⟨k,rfl⟩ : ∃ k,i = k + 1:=⟨i - 1,by omega⟩;rw [show k + 1 + 1 - 1 = k + 1 by omega,show k + 1 - 1 = k by omega,List.range_succ,List.map_append]
 rfl
theorem Zmy (A : Option Addr) (n c : Nat) (ps : List WE) (w : World) (hp : WL w A n c ps) (kp : pOk ps = true) :
    Calls Try.prog 18 #[.slice A n c] w (Zi8 w (Zaj (ps.map WE.num))):=by
 obtain ⟨iw,hi,hz0,hz1,hz2⟩:=info_parts Zfm;have hnc:=hp.2.1;have hcm:=hp.2.2.1;unfold maxLen at hcm;obtain ⟨hn9,hpk⟩:=Zbw kp;have hpl:=Zb hp.len;rw [hp.len] at hn9;replace hpk:=Zb hpk;clear kp;obtain ⟨xs,hxs⟩ : ∃ xs,ps.map WE.num = xs:=⟨_,rfl⟩;rw [hxs]
 have hxl : Hid (xs.length = n):=by unfold Hid;rw [<- hxs,List.length_map];exact hpl.out
 have hxb : Hid (∀ i : Nat,(xs[i]?.getD 0).natAbs < pw 40):=fun i=>by
  rw [<- hxs,List.getElem?_map]
  rcases Option.eq_none_or_eq_some ps[i]? with h | ⟨e,h⟩
  ·rw [h];exact Za7 40
  ·rw [h];exact WE.small (hp.2.2.2.2 e (List.mem_of_getElem? h)) (hpk.out e (List.mem_of_getElem? h)).1 (hpk.out e (List.mem_of_getElem? h)).2
 replace hxs:=Zb hxs;go_enter Try.func18,Try.ntmps18;go_wp2_with fail
 go_loopw [10,3] (fun iv ov wr=>∃ i : Nat,i <= n /\ iv = .int .i64 i /\ OwnP 26 wr w.heap.size ov ((List.range (i - 1)).map (fun j=>xs[j + 1]?.getD 0 * ((j + 1 : Nat) : Int))) /\ Below w.heap.size w wr) (fun iv _ _=>n - (intOf iv).toNat)
 case atStart=>exact ⟨0,Nat.zero_le _,rfl,OwnP.nil _ _ _,Below.refl _ _⟩
 case round =>
  obtain ⟨i,hik,rfl,hown,hBp⟩:=hrel;have hsz:=hBp.size
  by_cases hin : i < n
  ·obtain ⟨b1,o1,e1,rfl,he1,hc1,hc1',hL1⟩:=(hp.below hBp).at_ hin
   have hw1:=WE.wd hL1 (hpk.out e1 (List.mem_of_getElem? he1)).1;have hx1:=hp.num_at he1;rw [hxs.out] at hx1;have hlt1:=Zn hc1;obtain ⟨neg1,A1,n1,c1,l1⟩:=e1;dsimp only at hc1 hc1' hL1 hw1 hx1
   generalize WE.num ⟨neg1,A1,n1,c1,l1⟩ = x1 at *
   replace hx1:=Zb hx1;replace he1:=Zb he1;have hBA:=Blk.new wr 26 #[.bool neg1,.slice A1 n1 c1];have hBo:=hBp.alloc hBp.size (.cells #[.bool neg1,.slice A1 n1 c1] 26);have hownA:=hown.alloc (.cells #[.bool neg1,.slice A1 n1 c1] 26);have hwA:=hw1.alloc (.cells #[.bool neg1,.slice A1 n1 c1] 26)
   by_cases hi0 : 0 < i
   ·have d1 : decide ((0 : Int) < (i : Int)) = true:=by simp;omega
    replace hBA:=Zb hBA;go_wp2_with fail;have g0:=hBA.out.cell 0;have g1:=hBA.out.cell 1;obtain ⟨w4,hw4⟩ : ∃ w4,wr.alloc (.cells #[.bool neg1,.slice A1 n1 c1] 26) = w4:=⟨_,rfl⟩
    have hz4 : wr.heap.size < w4.heap.size:=by rw [<- hw4];simp
    rw [hw4] at hBo hownA hwA hBA g0 g1 ⊢;clear hw4;have g0' : w4.cell? ⟨wr.heap.size,0,none⟩ = some (.bool neg1):=g0;have g1' : w4.cell? ⟨wr.heap.size,1,none⟩ = some (.slice A1 n1 c1):=g1;clear g0 g1 hown
    have hM : (x1 * (i : Int)).natAbs < pw 4096:=by
     have h1:=hxb.out i;rw [hx1.out] at h1
     have h2 : ((i : Int)).natAbs < pw 40:=by have:=Zdn (show 1 <= 40 by omega);rw [show pw 1 = 4294967296 by rfl] at this;omega
     exact Znl (i:=0) (by omega) (by rw [Nat.zero_add,Nat.one_mul];exact Zgz h1 h2)
    have hw4 : Wd w4.drew neg1 A1 n1 c1 x1:=hwA;have g2' : w4.drew.cell? ⟨wr.heap.size,0,none⟩ = some (.bool neg1):=g0';have g3' : w4.drew.cell? ⟨wr.heap.size,1,none⟩ = some (.slice A1 n1 c1):=g1';have hne:=World.new_ne w4 _ g0';have hne':=World.new_ne w4 _ g1'
    go_region_held3 (fun w'=>w'.cell? ⟨wr.heap.size,0,none⟩ = some (.bool neg1) /\ w'.cell? ⟨wr.heap.size,1,none⟩ = some (.slice A1 n1 c1))
     (((try dsimp only);(repeat' apply And.intro);all_goals (first | go_keep | (simp [*,go_sem];done))))
     (first
      | (go_at_call 38;refine (Znj _ w4.drew (by omega) (by omega)).mono ?_;rintro e w5 ⟨hb5,neg5,A5,n5,c5,rfl,hW5⟩;have k0:=Za hb5 g2';have k1:=Za hb5 g3';have hw5:=hw4.below hb5;have hB5 : Below w4.heap.size w4 w5:=Zm hb5;have hB5':=hB5.size)
      | (go_at_call 38;refine (Znj _ (w4.alloc (.cells #[.bool false,.slice none 0 0] 26)).drew (by omega) (by omega)).mono ?_;rintro e w5 ⟨hb5,neg5,A5,n5,c5,rfl,hW5⟩;have k0:=Za hb5 ((World.cell?_alloc_lt w4 _ ⟨wr.heap.size,0,none⟩ hz4).trans g0');have k1:=Za hb5 ((World.cell?_alloc_lt w4 _ ⟨wr.heap.size,1,none⟩ hz4).trans g1');have hw5:=Wd.below (w:=(w4.alloc (.cells #[.bool false,.slice none 0 0] 26)).drew) (hwA.alloc _) hb5;have hB5 : Below w4.heap.size w4 w5:=((Below.refl w4.heap.size w4).alloc (Nat.le_refl _) (.cells #[.bool false,.slice none 0 0] 26)).trans ((Zm hb5).mono (by simp));have zb5:=Zd hb5 (Blk.new w4 26 #[.bool false,.slice none 0 0]))
      | (go_at_call 32;refine (Zki _ _ _ _ _ _ _ _ x1 (i : Int) w5 (by exact hw5) (by exact hW5)).mono ?_;rintro e w6 ⟨hb6,neg6,A6,n6,c6,code6,rfl,hR6⟩;have hB6 : Below w4.heap.size w4 w6:=hB5.trans (hb6.mono hB5.size);have k2:=Za hb6 k0;have k3:=Za hb6 k1;have zb6:=Zd hb6 zb5;have z0:=zb6.cell 0;have z1:=zb6.cell 1;have z2:=zb6.frozen 0;have z3:=zb6.frozen 1)
      | (go_at_call 32;refine (Zki _ _ _ _ _ _ _ _ x1 (i : Int) w5 (by exact hw5) (by exact hW5)).mono ?_;rintro e w6 ⟨hb6,neg6,A6,n6,c6,code6,rfl,hR6⟩;have hB6 : Below w4.heap.size w4 w6:=hB5.trans (hb6.mono hB5.size);have k2:=Za hb6 k0;have k3:=Za hb6 k1)
      | (go_at_call 32;refine (Zki _ _ _ _ _ _ _ _ x1 (i : Int) (w5.alloc (.cells #[.bool false,.slice none 0 0] 26)) (by exact hw5.alloc _) (by exact hW5.alloc _)).mono ?_;rintro e w6 ⟨hb6,neg6,A6,n6,c6,code6,rfl,hR6⟩;have hB6 : Below w4.heap.size w4 w6:=(hB5.alloc hB5.size _).trans (hb6.mono (Nat.le_trans hB5.size (by simp)));have k2:=Za hb6 ((World.cell?_alloc_lt w5 _ _ (Zn k0)).trans k0);have k3:=Za hb6 ((World.cell?_alloc_lt w5 _ _ (Zn k1)).trans k1);have zb6:=Zd hb6 (Blk.new w5 26 #[.bool false,.slice none 0 0]);have z0:=zb6.cell 0;have z1:=zb6.cell 1;have z2:=zb6.frozen 0;have z3:=zb6.frozen 1))
    all_goals (
     have hW6:=hR6.small hM;clear hR6
     first
      | (obtain ⟨W,hWe,hDB,hDK,hDW⟩:=Zoc 26 hB6 hB6.size hW6;rw [hWe])
      | (obtain ⟨W,hWe,hDB,hDK,hDW⟩:=Zol hB6 (by first | exact Nat.le_refl _ | exact hB5.size) zb6 hW6;rw [hWe])
     clear hWe;have hownW:=hownA.kept hDB;have hBW:=hBo.trans (hDB.mono hBo.size);have y0:=hDK.out.cell 0;have y1:=hDK.out.cell 1;have y0' : W.cell? ⟨_,0,none⟩ = some (.bool neg6):=y0;have y1' : W.cell? ⟨_,1,none⟩ = some (.slice A6 n6 c6):=y1;clear y0 y1 hownA hBo hB6 hb6 k0 k1 k2 k3 hW5 hw5 hW6;go_wp2_with (at_builtin;refine Zaa _ rfl (.tmp 24) (.tmp 26) 22 rfl w.heap.size 26 iw Try.underlying22 hi hz0 hz1 hz2 _ _ rfl (by exact hownW.alloc _) _ _ 1 1 [⟨neg6,A6,n6,c6,digits (x1 * (i : Int)).natAbs⟩] rfl (Zdu _ _ _ _ _ _ _) rfl (List.forall_mem_singleton.2 ⟨hDW.2.2.alloc _,hDW.ok⟩) (by rw [List.length_map,List.length_range];omega) (by have:=hBW.size;simp;omega) ?_;intro v7 w7 hown7 hg7 hk7);have hB7:=(hBW.alloc hBW.size _).grown hg7 (by have:=hBW.size;simp;omega) hownW.row_ge;have hown8:=hown7.snoc hDW;rw [<- hx1.out,Zlk xs hi0] at hown8
     go_roundw
     case rel=>exact ⟨i + 1,by omega,by go_num,hown8,hB7⟩
     case measure=>simp [intOf];omega)
   ·obtain rfl : i = 0:=by omega
    simp only [Nat.zero_mul,Nat.add_zero] at hc1 hc1';go_wp2_with fail
    go_roundw
    case rel=>exact ⟨1,by omega,by go_num,hownA,hBo⟩
    case measure=>simp [intOf];omega
  ·obtain rfl : i = n:=by omega
   have hO : (List.range (i - 1)).map (fun j=>xs[j + 1]?.getD 0 * ((j + 1 : Nat) : Int)) = Zaj xs:=by unfold Zaj;rw [hxl.out]
   rw [hO] at hown;obtain ⟨A9,c9,rfl,hP9⟩:=hown.poly;go_wp2_with fail;go_returns;exact ⟨_,_,_,rfl,hP9,hBp⟩
theorem Zkj {es : List WE} {i : Nat} {e : WE} (he : es[i]? = some e) (hb : e.bad = true) : es.any WE.bad = true:=List.any_eq_true.2 ⟨e,List.mem_of_getElem? he,hb⟩
theorem Zmi {es : List WE} (h : ∀ (j : Nat) (e : WE),j < es.length -> es[j]? = some e -> e.bad = false) : es.any WE.bad = false:=by
 rw [List.any_eq_false];intro e he;obtain ⟨j,hj,rfl⟩:=List.getElem_of_mem he;rw [h j _ hj (List.getElem?_eq_getElem hj)];simp
theorem Zrm {es : List WE} {e : WE} (h3 : es[es.length - 1]? = some e) (he : e.l.isEmpty = true) : pOk es = false:=by
 unfold pOk;rw [List.getLast?_eq_getElem?,h3];simp [he]
theorem Zb2 (A : Option Addr) (n c : Nat) (es : List WE) (w : World) (h : WL w A n c es) :
    Calls Try.prog 20 #[.slice A n c] w fun e w'=>e = .returned (.int .i64 (Zbg (pOk es))) /\ Below w.heap.size w w':=by
 have hnc:=h.2.1;have hcm:=h.2.2.1;unfold maxLen at hcm;have hl:=Zb h.len
 by_cases h9 : 9 < n
 ·rw [Zn4 (by rw [hl.out];exact h9)]
  have d9 : decide ((9 : Int) < (n : Int)) = true:=by simp;omega
  go_enter Try.func20,Try.ntmps20
  go_wp2
  go_ret;exact ⟨rfl,Below.refl _ _⟩
 ·have d9 : decide ((9 : Int) < (n : Int)) = false:=by simp;omega
  by_cases h0 : 0 < n
  ·have d0 : decide ((0 : Int) < (n : Int)) = true:=by simp;omega
   obtain ⟨b,o,e,rfl,he,hc1,hc2,hL⟩:=h.at_ (k:=n - 1) (by omega);obtain ⟨neg,A1,n1,c1,l1⟩:=e;dsimp only at hc1 hc2 hL;have hl1:=Zb hL.len;have h1m:=Nat.le_trans hL.2.1 hL.2.2.1;unfold maxLen at h1m
   have he' : es[es.length - 1]? = some ⟨neg,A1,n1,c1,l1⟩:=by rw [hl.out];exact he
   clear he
   by_cases hn1 : n1 = 0
   ·have hz : l1.isEmpty = true:=by have:=hl1.out;cases l1 <;> simp_all
    rw [Zrm he' hz]
    have dz : ((n1 : Int) == 0) = true:=by simp;exact hn1
    clear he' hz;replace hn1:=Zb hn1;go_enter Try.func20,Try.ntmps20
    go_wp2
    go_ret;exact ⟨rfl,Below.refl _ _⟩
   ·have hz : l1.isEmpty = false:=by have:=hl1.out;cases l1 <;> simp_all
    have dz : ((n1 : Int) == 0) = false:=by simp;exact hn1
    have hOK : Hid (es.any WE.bad = false -> pOk es = true):=fun hb=>by rw [Zne (by rw [hl.out];omega) hb he',hz];rfl
    have hlt:=Zn hc2;clear he' hz;replace hn1:=Zb hn1;obtain ⟨v,hv⟩ : ∃ v,Zbg (pOk es) = v:=⟨_,rfl⟩;rw [hv];replace hv:=Zb hv;go_enter Try.func20,Try.ntmps20
    go_wp2
    clear dz hc1 hc2 hL
    go_loopw [3] (fun iv wr=>∃ i : Nat,i <= n /\ iv = .int .i64 i /\ Hid (∀ (j : Nat) (e : WE),j < i -> es[j]? = some e -> e.bad = false) /\ Below w.heap.size w wr) (fun iv _=>n - (intOf iv).toNat)
    case atStart=>exact ⟨0,Nat.zero_le _,rfl,fun j e hj=>by omega,Below.refl _ _⟩
    case round =>
     obtain ⟨i,hik,rfl,hok,hB⟩:=hrel
     by_cases hin : i < n
     ·obtain ⟨b2,o2,e2,hbb,he2,hc1,hc2,hL2⟩:=(h.below hB).at_ hin
      obtain ⟨rfl,rfl⟩ : b2 = b /\ o2 = o:=by injection hbb with hbb;injection hbb with h1 h2;exact ⟨h1.symm,h2.symm⟩
      obtain ⟨neg2,A2,n2,c2,l2⟩:=e2;dsimp only at hc1 hc2 hL2;have hl2:=Zb hL2.len;have h2m:=Nat.le_trans hL2.2.1 hL2.2.2.1;unfold maxLen at h2m;replace he2:=Zb he2
      by_cases hk : okW neg2 l2 = true
      ·have HK:=Zb (show Zbg (okW neg2 l2) = 0 by rw [hk];rfl)
       by_cases h40 : 40 < n2
       ·have d40 : decide ((40 : Int) < (n2 : Int)) = true:=by simp;omega
        have hv8 : Hid ((8 : Int) = v):=by unfold Hid;rw [<- hv.out,Zmr (Zkj he2.out (by unfold WE.bad;rw [hl2.out];simp;omega))];rfl
        go_wp2_with (go_at_call 40;refine (Zff _ _ _ _ _ _ hL2).mono ?_;rintro e w1 ⟨he1,hb1⟩;rw [HK.out] at he1;subst he1;have k2:=Za hb1 hc2);go_ret;exact ⟨Zfa hv8.out,hB.trans (hb1.mono hB.size)⟩
       ·have d40 : decide ((40 : Int) < (n2 : Int)) = false:=by simp;omega
        have hgood : (⟨neg2,A2,n2,c2,l2⟩ : WE).bad = false:=by unfold WE.bad WE.ok;rw [hl2.out,hk];simp;omega
        replace hgood:=Zb hgood;replace hk:=Zb hk;go_wp2_with (go_at_call 40;refine (Zff _ _ _ _ _ _ hL2).mono ?_;rintro e w1 ⟨he1,hb1⟩;rw [HK.out] at he1;subst he1;have k2:=Za hb1 hc2)
        go_roundw
        case rel=>exact ⟨i + 1,by omega,by go_num,fun j e hj hje=>by
            rcases Nat.lt_or_ge j i with h' | h'
            ·exact hok.out j e h' hje
            ·obtain rfl : j = i:=by omega
             rw [he2.out] at hje;injection hje with hje;rw [<- hje];exact hgood.out,hB.trans (hb1.mono hB.size)⟩
        case measure=>simp [intOf];omega
      ·have hk' : okW neg2 l2 = false:=by simpa using hk
       have HK:=Zb (show Zbg (okW neg2 l2) = 8 by rw [hk'];rfl)
       have hv8 : Hid ((8 : Int) = v):=by unfold Hid;rw [<- hv.out,Zmr (Zkj he2.out (by unfold WE.bad WE.ok;rw [hk'];simp))];rfl
       clear hk hk';go_wp2_with (go_at_call 40;refine (Zff _ _ _ _ _ _ hL2).mono ?_;rintro e w1 ⟨he1,hb1⟩;rw [HK.out] at he1;subst he1);go_ret;exact ⟨Zfa hv8.out,hB.trans (hb1.mono hB.size)⟩
     ·obtain rfl : i = n:=by omega
      have hv0 : Hid ((0 : Int) = v):=by unfold Hid;rw [<- hv.out,hOK.out (Zmi fun j e hj=>hok.out j e (by rw [<- hl.out];exact hj))];rfl
      go_wp2
      go_ret;exact ⟨Zfa hv0.out,hB⟩
  ·obtain rfl : n = 0:=by omega
   rw [Zp6 hl.out];go_enter Try.func20,Try.ntmps20
   go_wp2
   refine wp_loop_rounds 1 ?_;rw [rounds_succ]
   go_wp2
   go_ret;exact ⟨rfl,Below.refl _ _⟩
theorem Zic (A B : Option Addr) (n c m d : Nat) (ps qs : List WE) (w : World) (hp : WL w A n c ps) (hq : WL w B m d qs) :
    Calls Try.prog 14 #[.slice A n c,.slice B m d] w fun e w'=>e = .returned (.int .i64 (Zbg (pOk ps && pOk qs))) /\ Below w.heap.size w w':=by
 by_cases kp : pOk ps = true
 ·rw [kp,Bool.true_and]
  replace kp : Hid (Zbg (pOk ps) = 0):=by unfold Hid;rw [kp];rfl
  generalize hk : pOk qs = k at *
  replace hk:=Zb hk;go_enter Try.func14,Try.ntmps14;go_wp2_with fail;refine (Zb2 _ _ _ _ _ hp).mono ?_;rintro e w1 ⟨he1,hb1⟩;rw [kp.out] at he1;subst he1;go_wp2_with fail;refine (Zb2 _ _ _ _ _ (hq.below hb1)).mono ?_;rintro e w2 ⟨he2,hb2⟩;rw [hk.out] at he2;subst he2;go_wp2_with fail;go_returns;exact ⟨rfl,hb1.trans (hb2.mono hb1.size)⟩
 ·have kp' : pOk ps = false:=by simpa using kp
  rw [kp',Bool.false_and]
  replace kp : Hid (Zbg (pOk ps) = 8):=by unfold Hid;rw [kp'];rfl
  clear kp';rw [show Zbg false = 8 from rfl];go_enter Try.func14,Try.ntmps14;go_wp2_with fail;refine (Zb2 _ _ _ _ _ hp).mono ?_;rintro e w1 ⟨he1,hb1⟩;rw [kp.out] at he1;subst he1;go_wp2_with fail;refine (Zb2 _ _ _ _ _ (hp.below hb1)).mono ?_;rintro e w2 ⟨he2,hb2⟩;rw [kp.out] at he2;subst he2;go_wp2_with fail;go_returns;exact ⟨rfl,hb1.trans (hb2.mono hb1.size)⟩
theorem WL.reads {w : World} {A : Option Addr} {n c : Nat} {es : List WE} (h : WL w A n c es) : Reads w w.heap.size 2 A n (Z0 es):=
 ⟨by rw [Zah,h.len],fun hn=>by
  obtain ⟨b,o,e,hc⟩:=h.2.2.2.1 hn;have h0:=hc 0 _ (List.getElem?_eq_getElem (show 0 < es.length by rw [h.len];exact hn));refine ⟨_,e,Zn h0.1,fun j u hu=>?_⟩;rw [Zj];have hj : j < (Z0 es).length:=(List.getElem?_eq_some_iff.1 hu).1;rw [Zah] at hj;have he:=List.getElem?_eq_getElem (show j / 2 < es.length by omega);have h1:=hc _ _ he;have h2:=Zg7 he
  rcases Nat.mod_two_eq_zero_or_one j with hm | hm
  ·have hj2 : j / 2 * 2 = j:=by omega
   rw [hj2] at h1 h2;rw [h1.1,<- hu,h2.1]
  ·have hj2 : j / 2 * 2 + 1 = j:=by omega
   rw [Nat.add_assoc,hj2] at h1;rw [hj2] at h2
   rw [h1.2,<- hu,h2.2]⟩
theorem OwnP.empty (t : TypeId) (w : World) : OwnP t (w.alloc (.cells #[] t)) w.heap.size (.slice (some ⟨w.heap.size,0,none⟩) 0 0) []:=
 ⟨[],.inr ⟨w.heap.size,0,rfl,Nat.le_refl _,Nat.zero_le _,Blk.new w t #[]⟩,fun e h=>by simp at h,rfl⟩
theorem Zlo (A : Option Addr) (n c : Nat) (xs : List Int) (w : World) (h : PolyL w A n c xs) (hn1000 : n <= 900) :
    Calls Try.prog 28 #[.slice A n c] w (Zi8 w (Zf xs)):=by
 obtain ⟨iw,hi,hz0,hz1,hz2⟩:=info_parts Zfm;have hxl:=Zb h.len;obtain ⟨es,h,hxs,hok⟩:=h;have hnc:=h.2.1;have hcm:=h.2.2.1;unfold maxLen at hcm;have hel:=Zb h.len
 have HF : Hid (∀ (k : Nat) (v1 : Value) (w1 : World),k <= n -> (∀ j,k <= j -> xs[j]?.getD 0 = 0) -> (k = 0 \/ xs[k - 1]?.getD 0 ≠ 0) -> OwnP 26 w1 w.heap.size v1 ([] ++ (es.take k).map WE.num) -> (w.alloc (.cells #[] 26)).grownBy w1 (Value.slice (some ⟨w.heap.size,0,none⟩) 0 0).ownBlock -> Zi8 w (Zf xs) (.returned v1) w1):=fun k v1 w1 hk hz hk0 ho hg=>by
  rw [List.nil_append,List.map_take,hxs,<- Ze9 hz hk0] at ho;obtain ⟨A1,c1,rfl,hP⟩:=ho.poly;exact ⟨_,_,_,rfl,hP,((Below.refl w.heap.size w).alloc (Nat.le_refl _) _).grown hg (by simp) (fun j hj=>by simp [Value.ownBlock] at hj;omega)⟩
 have hfs : Hid (∀ k,∀ e ∈ es.take k,Lim (w.alloc (.cells #[] 26)) e.A e.n e.c e.l /\ e.ok = true):=fun k e he=>⟨(h.2.2.2.2 e (List.mem_of_mem_take he)).alloc _,hok e (List.mem_of_mem_take he)⟩
 replace hxs:=Zb hxs;replace hok:=Zb hok;go_enter Try.func28,Try.ntmps28
 go_wp2
 go_loop [3] (fun v=>∃ k : Nat,k <= n /\ v = .int .i64 k /\ Hid (∀ j,k <= j -> xs[j]?.getD 0 = 0)) (fun v=>(intOf v).toNat)
 case atStart=>exact ⟨n,Nat.le_refl _,rfl,fun j hj=>by rw [List.getElem?_eq_none (by rw [hxl.out];exact hj)];rfl⟩
 case round =>
  obtain ⟨k,hk,rfl,hz⟩:=hrel
  by_cases hk0 : 0 < k
  ·have hd0 : decide ((0 : Int) < (k : Int)) = true:=by simp;omega
   obtain ⟨b,o,e,rfl,he,hc1,hc2,hL⟩:=h.at_ (k:=k - 1) (by omega);have hm1:=Nat.le_trans hL.2.1 hL.2.2.1;unfold maxLen at hm1;have hnz:=WE.num_zero hL (hok.out e (List.mem_of_getElem? he))
   have hxk : xs[k - 1]?.getD 0 = e.num:=by rw [<- hxs.out,List.getElem?_map,he];rfl
   obtain ⟨neg,A1,n1,c1,l1⟩:=e;dsimp only at hc1 hc2 hL hm1 hnz;replace hxk:=Zb hxk;replace hnz:=Zb hnz;clear he hL
   by_cases hx : n1 = 0
   ·have hd : ((n1 : Int) == 0) = true:=by simpa using hx
    replace hx:=Zb hx;have hr:=Zb h;clear h
    go_wp2
    go_round
    case rel=>exact ⟨k - 1,by omega,by go_num,fun j hj=>by
        rcases Nat.lt_or_ge j k with h' | h'
        ·obtain rfl : j = k - 1:=by omega
         rw [hxk.out];exact hnz.out.1 hx.out
        ·exact hz.out j h'⟩
    case measure=>simp [intOf];omega
   ·have hd : ((n1 : Int) == 0) = false:=by simpa using hx
    have hxz:=Zb (show xs[k - 1]?.getD 0 ≠ 0 by rw [hxk.out];exact fun h'=>hx (hnz.out.2 h'));replace hx:=Zb hx;have hr:=Zb (h.take hk);have hrl:=Zb (show (es.take k).length = k by rw [List.length_take,hel.out];omega);clear h;go_wp2_with (at_builtin;refine Zaa _ rfl (.tmp 20) (.tmp 23) 22 rfl w.heap.size 26 iw Try.underlying22 hi hz0 hz1 hz2 _ _ rfl (OwnP.empty _ _) _ _ k c (es.take k) rfl (by exact (hr.out.alloc _).reads) hrl.out (hfs.out k) (by simp;omega) (by simp) ?_;intro v1 w1 hown1 hg1 hk1);go_ret;exact HF.out k _ _ hk hz.out (.inr hxz.out) hown1 hg1
  ·obtain rfl : k = 0:=by omega
   have hr:=Zb (h.take hk);clear h;go_wp2_with (at_builtin;refine Zaa _ rfl (.tmp 20) (.tmp 23) 22 rfl w.heap.size 26 iw Try.underlying22 hi hz0 hz1 hz2 _ _ rfl (OwnP.empty _ _) _ _ 0 c (es.take 0) rfl (by exact (hr.out.alloc _).reads) rfl (hfs.out 0) (by simp) (by simp) ?_;intro v1 w1 hown1 hg1 hk1);go_ret;exact HF.out 0 _ _ hk hz.out (.inl rfl) hown1 hg1
theorem Zld (A : Option Addr) (n c : Nat) (xs : List Int) (w : World) (h : PolyL w A n c xs) (hn : n <= 900) :
    Calls Try.prog 15 #[.slice A n c] w (ResPoly w xs):=by
 have hT:=Zb (Zlo A n c xs w h hn);go_enter Try.func15,Try.ntmps15;go_wp2_with fail;refine hT.out.mono ?_;rintro e w1 ⟨A1,n1,c1,rfl,hP1,hb1⟩;clear hT;obtain ⟨es,h1,h2,h3⟩:=hP1;have hpk:=PolyL.pok h1 h3 (by rw [h2];exact Zb0 xs);rw [h2] at hpk;have HP:=Zb (show PolyL w1 A1 n1 c1 (Zf xs) from ⟨es,h1,h2,h3⟩);replace h2:=Zb h2;replace h3:=Zb h3
 by_cases hk : okP (Zf xs) = true
 ·have he : Hid (Zbg (pOk es) = 0):=by unfold Hid;rw [hpk,hk];rfl
  replace hpk:=Zb hpk;replace hk:=Zb hk;go_wp2_with fail;refine (Zb2 _ _ _ _ _ h1).mono ?_;rintro e w2 ⟨he2,hb2⟩;rw [he.out] at he2;subst he2;go_wp2_with fail;go_returns;exact ⟨hb1.trans (hb2.mono hb1.size),_,_,_,_,rfl,.inl ⟨hk.out,rfl,HP.out.below hb2⟩⟩
 ·have hk' : okP (Zf xs) = false:=by simpa using hk
  have he : Hid (Zbg (pOk es) = 8):=by unfold Hid;rw [hpk,hk'];rfl
  replace hpk:=Zb hpk;replace hk:=Zb hk';clear hk';go_wp2_with fail;refine (Zb2 _ _ _ _ _ h1).mono ?_;rintro e w2 ⟨he2,hb2⟩;rw [he.out] at he2;subst he2;go_wp2_with fail;go_returns;exact ⟨hb1.trans (hb2.mono hb1.size),none,0,0,16,rfl,.inr ⟨hk.out,rfl,rfl,rfl⟩⟩
theorem fdm {z d q r : Int} (h : z = d * q + r) (hr : (0 <= r /\ r < d) \/ (d < r /\ r <= 0)) : Int.fdiv z d = q /\ Int.fmod z d = r:=by
 rcases hr with ⟨h1,h2⟩ | ⟨h1,h2⟩
 ·exact (Int.fdiv_fmod_unique (by omega)).2 ⟨by omega,h1,h2⟩
 ·exact (Int.fdiv_fmod_unique' (by omega)).2 ⟨by omega,by omega,h2⟩
theorem Zge (na nb : Bool) (U V : Nat) (hV : 0 < V) (h : U % V = 0 \/ na = nb) : Int.fdiv (sg na U) (sg nb V) = sg (na != nb) (U / V : Nat) /\ Int.fmod (sg na U) (sg nb V) = sg nb (U % V : Nat):=by
 have h1:=Nat.div_add_mod U V;have h2:=Nat.mod_lt U hV
 generalize U / V = x at *
 generalize U % V = y at *
 subst h1
 have e : ((V * x + y : Nat) : Int) = (V : Int) * x + y:=by push_cast;rfl
 apply fdm
 ·cases na <;> cases nb <;> simp only [sg,e] <;> simp at h ⊢ <;> grind
 ·cases na <;> cases nb <;> simp [sg] at h ⊢ <;> omega
theorem Zlb (na nb : Bool) (U V : Nat) (hV : 0 < V) (hy : 0 < U % V) (h : na ≠ nb) : Int.fdiv (sg na U) (sg nb V) = sg (na != nb) (U / V + 1 : Nat) /\ Int.fmod (sg na U) (sg nb V) = sg nb (V - U % V : Nat):=by
 have h1:=Nat.div_add_mod U V;have h2:=Nat.mod_lt U hV
 generalize U / V = x at *
 generalize U % V = y at *
 subst h1
 have e : ((V * x + y : Nat) : Int) = (V : Int) * x + y:=by push_cast;rfl
 have e2 : ((V - y : Nat) : Int) = (V : Int) - y:=by omega
 apply fdm
 ·cases na <;> cases nb <;> simp only [sg,e,e2] <;> simp at h ⊢ <;> grind
 ·cases na <;> cases nb <;> simp [sg] at h ⊢ <;> omega
theorem Zlg {U V P uh v1 : Nat} (hv : 0 < v1) (hV : v1 * P <= V) (hU : U < (uh + 1) * P) : U / V <= uh / v1:=by
 rw [Nat.le_div_iff_mul_le hv];have h1 : U / V * V <= U:=Nat.div_mul_le_self U V;have h2 : U / V * (v1 * P) <= U / V * V:=Nat.mul_le_mul_left _ hV
 have h3 : U / V * v1 * P < (uh + 1) * P:=by rw [Nat.mul_assoc];omega
 have:=Nat.lt_of_mul_lt_mul_right h3;omega
theorem Zmn {U V P uh v1 q : Nat} (hV : v1 * P <= V) (hU : U < (uh + 1) * P) (hq : uh < q * v1) : U / V < q:=by
 rcases Nat.lt_or_ge (U / V) q with h | h
 ·exact h
 ·exfalso
  have h1 : U / V * V <= U:=Nat.div_mul_le_self U V;have h2 : q * (v1 * P) <= U / V * V:=Nat.mul_le_mul h hV;have h3 : (uh + 1) * P <= q * v1 * P:=Nat.mul_le_mul_right _ hq;rw [Nat.mul_assoc] at h3;omega
theorem Zh2 {u u0 v : List Nat} {i q carry borrow c lo d b : Nat} (hi : i < u.length)
    (hI : val (u.take i) + q * val (v.take i) = val (u0.take i) + pw i * (carry + borrow)) (ht : lo + 4294967296 * c = carry + q * v[i]?.getD 0) (hd : d + lo + borrow = u0[i]?.getD 0 + 4294967296 * b) :
    val ((u.set i d).take (i + 1)) + q * val (v.take (i + 1)) = val (u0.take (i + 1)) + pw (i + 1) * (c + b):=by
 rw [Zx,Zx v,Zx u0,List.take_set_of_le (Nat.le_refl i),List.getElem?_set_self hi,Zal,Nat.mul_add q];simp only [Option.getD_some]
 generalize v[i]?.getD 0 = x at *
 generalize u0[i]?.getD 0 = y at *
 generalize val (u.take i) = a at *
 generalize val (v.take i) = e at *
 generalize val (u0.take i) = f at *
 have e1 : q * (pw i * x) = pw i * (q * x):=by rw [Nat.mul_left_comm]
 rw [e1]
 have e2 : pw i * (q * x) + pw i * carry = pw i * lo + pw i * (4294967296 * c):=by rw [<- Nat.mul_add,<- Nat.mul_add,ht,Nat.add_comm]
 have e3 : pw i * d + pw i * lo + pw i * borrow = pw i * y + pw i * (4294967296 * b):=by rw [<- Nat.mul_add,<- Nat.mul_add,<- Nat.mul_add,hd]
 have e4 : 4294967296 * pw i * (c + b) = pw i * (4294967296 * c) + pw i * (4294967296 * b):=by rw [Nat.mul_add,Nat.mul_comm 4294967296 (pw i),Nat.mul_assoc,Nat.mul_assoc]
 rw [Nat.mul_add] at hI;rw [e4];omega
def MutL (w : World) (g off : Nat) (l : List Nat) : Prop:=∀ i,i < l.length -> w.cell? ⟨g,off + i,none⟩ = some (limb (l[i]?.getD 0)) /\ w.frozen? ⟨g,off + i,none⟩ = false
theorem MutL.set_ {w : World} {g off : Nat} {l : List Nat} (h : MutL w g off l) {i : Nat} (hi : i < l.length) (x : Nat) : MutL (w.setCell ⟨g,off + i,none⟩ (limb x)) g off (l.set i x):=fun j hj=>by
 rw [List.length_set] at hj;refine ⟨?_,by rw [World.frozen?_setCell];exact (h j hj).2⟩
 by_cases hji : j = i
 ·subst hji
  rw [Ziv _ hi];exact World.cell?_setCell_same _ _ _ (h j hj).1
 ·rw [getD_set_ne _ (fun e=>hji e.symm),World.cell?_setCell_other _ _ _ _ (by intro e;injection e with e1 e2;omega)]
  exact (h j hj).1
theorem Zf7 {w w' : World} {g o : Nat} {u : Value} (h : w.grownBy w' (some g)) : w.grownBy (w'.setCell ⟨g,o,none⟩ u) (some g):=
 ⟨h.os,h.tape,h.output,by simpa using h.size,fun k hk hne=>(Below.heap_setCell w' ⟨g,o,none⟩ u k (fun e=>hne (by rw [e]))).trans (h.block k hk hne)⟩
def SubP (w : World) (g off n q : Nat) (u v : List Nat) (i cy b : Nat) (wr : World) : Prop:=
 ∃ l,MutL wr g off l /\ l.length = n + 1 /\ Lt32 l /\ (∀ j,i <= j -> l[j]?.getD 0 = u[j]?.getD 0) /\ val (l.take i) + q * val (v.take i) = val (u.take i) + pw i * (cy + b) /\ w.grownBy wr (some g)
theorem Znw {c x y : Nat} (hc : c < 4294967296) (hx : x < 4294967296) (hy : y < 4294967296) :
    IntKind.u64.wrap ((c : Int) + IntKind.u64.wrap ((x : Int) * y)) = ((c + x * y : Nat) : Int):=by
 have h : x * y <= 4294967295 * 4294967295:=Nat.mul_le_mul (by omega) (by omega)
 have e : (x : Int) * y = ((x * y : Nat) : Int):=by simp
 rw [e]
 generalize x * y = t at *
 simp only [IntKind.wrap_u64];omega
theorem Zmf (g off n c d q : Nat) (B : Option Addr) (u v : List Nat) (w : World) (hu : MutL w g off u) (hul : u.length = n + 1) (hut : Lt32 u) (hnc : n + 1 <= c) (hcm : c <= maxLen) (hn9 : n <= 1000000000)
    (hv : Lim w B n d v) (hB : ∀ b o,B = some ⟨b,o,none⟩ -> b ≠ g) (hq : q < 4294967296) :
    Calls Try.prog 91 #[.slice (some ⟨g,off,none⟩) (n + 1) c,.slice B n d,.int .u32 q] w fun e w'=>∃ b l,b <= 1 /\ e = .returned (.bool (decide (b = 0))) /\ MutL w' g off l /\ l.length = n + 1 /\ Lt32 l /\ val l + q * val v = val u + pw (n + 1) * b /\ w.grownBy w' (some g):=by
 unfold maxLen at hcm;have hnd:=hv.2.1;have hdm:=hv.2.2.1;unfold maxLen at hdm;have hvl:=Zb hv.len;replace hul:=Zb hul;go_enter Try.func91,Try.ntmps91
 go_wp2
 go_loopw [14,7,8] (fun iv cv bv wr=>∃ i cy b : Nat,i <= n /\ iv = .int .i64 i /\ cy < 4294967296 /\ cv = .int .u64 cy /\ b <= 1 /\ bv = limb b /\ SubP w g off n q u v i cy b wr) (fun iv _ _ _=>n - (intOf iv).toNat)
 case atStart=>exact ⟨0,0,0,Nat.zero_le _,rfl,by omega,rfl,Nat.zero_le _,rfl,u,hu,hul.out,hut,fun _ _=>rfl,by simp [val],World.grownBy.refl w _⟩
 case round =>
  obtain ⟨i,cy,b,hin,rfl,hcy,rfl,hb1,rfl,l,hl,hll,hlt,hsame,hI,hg⟩:=hrel;replace hll:=Zb hll;replace hsame:=Zb hsame;replace hI:=Zb hI
  by_cases hi : i < n
  ·obtain ⟨bb,ob,rfl,hcb⟩:=hv.at_ hi
   have hbg:=hB bb ob rfl;have hcb':=(World.cell?_of_block (a:=⟨bb,ob + i,none⟩) (hg.block bb (Zn hcb) (fun e=>hbg (by injection e)))).trans hcb;have hx:=hv.lt.get i;have hy:=hut.get i;obtain ⟨hcu,hfu⟩:=hl i (by rw [hll.out];omega);rw [hsame.out i (Nat.le_refl _)] at hcu
   have hlen9 : i < l.length:=by rw [hll.out];omega
   go_wp2_with fail;rw [Znw hcy hq hx,Zke]
   have htb : cy + q * v[i]?.getD 0 < 18446744073709551616:=by
    have h : q * v[i]?.getD 0 <= 4294967295 * 4294967295:=Nat.mul_le_mul (by omega) (by omega);omega
   obtain ⟨t,ht⟩ : ∃ t,cy + q * v[i]?.getD 0 = t:=⟨_,rfl⟩;rw [ht] at htb ⊢;replace ht:=Zb ht;refine (Zgm _ (t % 4294967296) _ _ hy (Nat.mod_lt _ (by decide)) hb1).mono ?_;rintro e w' ⟨dd,kk,rfl,hd,hk,he,rfl⟩;replace he:=Zb he;go_wp2_with fail
   go_roundw
   case rel =>
    rw [Zkn];refine ⟨i + 1,_,kk,by omega,by go_num,by omega,rfl,hk,rfl,l.set i dd,hl.set_ hlen9 dd,by rw [List.length_set];exact hll.out,hlt.set i hd,fun j hj=>?_,?_,Zf7 hg⟩
    ·rw [getD_set_ne _ (by omega)];exact hsame.out j (by omega)
    ·exact Zh2 hlen9 hI.out (lo:=t % 4294967296) (by rw [ht.out];omega) (by have:=he.out;omega)
   case measure=>simp [intOf];omega
  ·obtain rfl : i = n:=by omega
   have hy:=hut.get i;obtain ⟨hcu,hfu⟩:=hl i (by rw [hll.out];omega);rw [hsame.out i (Nat.le_refl _)] at hcu
   have hlen9 : i < l.length:=by rw [hll.out];omega
   have hcc : ((cy : Int)) % 4294967296 = (cy : Int):=by omega
   go_wp2_with fail;refine (Zgm _ cy _ _ hy hcy hb1).mono ?_;rintro e w' ⟨dd,kk,rfl,hd,hk,he,rfl⟩
   have hfin : Hid (val (l.set i dd) + q * val v = val u + pw (i + 1) * kk):=by
    have h1:=Zh2 (v:=v) (q:=q) (lo:=cy) (c:=0) hlen9 hI.out (by rw [Zbv (by rw [hvl.out];exact Nat.le_refl _)];omega) he;rw [Z1 (by rw [List.length_set,hll.out];exact Nat.le_refl _),Z1 (by rw [hvl.out];omega),Z1 (by rw [hul.out];exact Nat.le_refl _),Nat.zero_add] at h1;exact h1
   have hM:=hl.set_ hlen9 dd;have hL:=hlt.set i hd;have hG:=Zf7 (o:=off + i) (u:=limb dd) hg
   have hlen2 : Hid ((l.set i dd).length = i + 1):=by unfold Hid;rw [List.length_set];exact hll.out
   replace he:=Zb he;clear hl hlt
   rcases Nat.eq_zero_or_pos kk with rfl | h0
   ·go_wp2_with fail
    go_returns;exact ⟨0,_,by omega,rfl,hM,hlen2.out,hL,hfin.out,hG⟩
   ·obtain rfl : kk = 1:=by omega
    go_wp2_with fail;go_returns;exact ⟨1,_,by omega,rfl,hM,hlen2.out,hL,hfin.out,hG⟩
theorem OwnL.mut {t : TypeId} {w : World} {base : Nat} {v : Value} {l : List Nat} (h : OwnL t w base v l) (hn : 0 < l.length) : ∃ g cap,v = .slice (some ⟨g,0,none⟩) l.length cap /\ base <= g /\ g < w.heap.size /\ l.length <= cap /\ cap <= maxLen /\ MutL w g 0 l:=by
 rcases h.1.2 with ⟨hv,h0⟩ | ⟨g,cap,cur,hv,hg,hh,hnc,hcm,hcs,ht⟩
 ·omega
 ·refine ⟨g,cap,hv,hg,(Array.getElem?_eq_some_iff.1 hh).1,hnc,hcm,fun k hk=>⟨?_,?_⟩⟩
  ·rw [Nat.zero_add,cell_of_row w g k cur t (0,0) hh]
   have h3 : (cur.toList.take (l.length * 1))[k]? = (l.map limb)[k]?:=by rw [ht]
   rw [List.getElem?_take,if_pos (by omega),List.getElem?_map,List.getElem?_eq_getElem hk] at h3;rw [List.getElem?_eq_getElem hk]
   simpa using h3
  ·rw [Nat.zero_add]
   unfold World.frozen?;rw [hh]
   simp
def Zot (w : World) (l : List Nat) (e : Ending) (w' : World) : Prop:=
 ∃ v,e = .returned v /\ OwnL 71 w' w.heap.size v l /\ Below w.heap.size w w'
theorem Zlj (a : Addr) (n c : Nat) (l : List Nat) (w : World) (h : Reads w w.heap.size 1 (some a) n (l.map limb)) (hl : l.length = n) (hlt : Lt32 l) (hn9 : n <= 1000000000) (hnc : n <= c) (hcm : c <= maxLen) :
    Calls Try.prog 56 #[.slice (some a) n c] w (Zot w l):=by
 obtain ⟨i0,hi,hz0,hz1,hz2⟩:=info_parts Zcl;unfold maxLen at hcm;replace hl:=Zb hl
 have hcmp : ∀ W,(binOp BinOp.eql 24 (.slice (some a) n c) (.slice none 0 0)).run Try.prog W = .ok (.bool false) W:=fun _=>by kernel_rfl
 go_enter Try.func56,Try.ntmps56;go_wp2_with (go_loud (at_builtin;refine Zq _ rfl (.tmp 5) (.tmp 6) 24 rfl w.heap.size 71 i0 _ 1 4 Try.underlying24 hi hz0 hz1 hz2 rfl (by omega) (.slice (some ⟨w.heap.size,0,none⟩) 0 0) 0 [] rfl (Zgr _ _ _) _ (some a) n c (l.map limb) rfl (by exact h.alloc (Nat.le_refl _) _) (Zcq _) (by simp only [maxLen];omega) (by omega) (by simp) ?_;intro v1 w1 hown1 hg1 hat1));go_ret;have h2 : OwnL 71 w1 w.heap.size v1 ([] ++ l):=OwnL.append (l:=[]) rfl hl.out.symm hown1 Lt32.nil hlt;exact ⟨v1,rfl,h2,((Below.refl _ _).alloc (Nat.le_refl _) _).grown hg1 (by simp) (fun j hj=>by simp [Value.ownBlock] at hj;omega)⟩
theorem Zpe (c : Nat) (w : World) : Calls Try.prog 56 #[.slice none 0 c] w (Zot w []):=by
 have hcmp : ∀ W,(binOp BinOp.eql 24 (.slice none 0 c) (.slice none 0 0)).run Try.prog W = .ok (.bool true) W:=fun _=>by kernel_rfl
 go_enter Try.func56,Try.ntmps56
 go_wp2
 go_ret;exact ⟨_,rfl,OwnL.nil _ _ _,Below.refl _ _⟩
theorem Zgh (A : Option Addr) (n c : Nat) (l : List Nat) (w : World) (h : Lim w A n c l) (hn9 : n <= 1000000000) :
    Calls Try.prog 56 #[.slice A n c] w (Zot w l):=by
 rcases A with _ | a
 ·have hn : n = 0:=by
    rcases Nat.eq_zero_or_pos n with h0 | h0
    ·exact h0
    ·obtain ⟨b,o,e,_⟩:=h.2.2.2.2 h0
     cases e
  subst hn;obtain rfl : l = []:=List.eq_nil_of_length_eq_zero h.len;exact Zpe c w
 ·exact Zlj a n c l w h.reads h.len h.lt hn9 h.2.1 h.2.2.1
end Go.Proofs.Ythappeninglakaa
