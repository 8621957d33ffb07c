/- Rows of fractions of the call's own. Raw fractions: -/
import Derived.Maps.AppendAt
import Derived.Deep.LoopGhost
import Derived.Test.YtaioanjcjijckaaGreatZl27
set_option maxRecDepth 100000
set_option maxHeartbeats 2000000
set_option linter.unusedSimpArgs false
set_option linter.unusedVariables false
namespace Go.Proofs.YtaioanjcjijckaaGreat
open Go.RowKit
structure FE where
 na : Bool
 A : Option Addr
 n : Nat
 c : Nat
 nb : Bool
 B : Option Addr
 m : Nat
 d : Nat
 q : Rat
def FE.in_ (w : World) (e : FE) : Prop:=Fr w e.na e.A e.n e.c e.nb e.B e.m e.d e.q
def Zp : List FE -> List Value
 | []=>[]
 | e :: l=>.bool e.na :: .slice e.A e.n e.c :: .bool e.nb :: .slice e.B e.m e.d :: Zp l
def Z3 (es : List FE) : Array Value:=(Zp es).toArray
theorem Zu (es : List FE) : (Zp es).length = es.length * 4:=by
 induction es with
 | nil=>rfl
 | cons e l ih=>simp only [Zp,List.length_cons,ih];omega
theorem Zes {es : List FE} {i : Nat} {e : FE} (h : es[i]? = some e) : (Zp es)[i * 4]? = some (.bool e.na) /\ (Zp es)[i * 4 + 1]? = some (.slice e.A e.n e.c) /\ (Zp es)[i * 4 + 2]? = some (.bool e.nb) /\ (Zp es)[i * 4 + 3]? = some (.slice e.B e.m e.d):=by
 induction es generalizing i with
 | nil=>simp at h
 | cons x l ih =>
  cases i with
  | zero=>simp at h;subst h;simp [Zp]
  | succ i =>
   have:=ih (by simpa using h);rw [show (i + 1) * 4 = i * 4 + 4 by omega]
   simpa [Zp] using this
theorem Zj4 (es : List FE) : ∀ (i x : Nat),(Zp es)[i]? ≠ some (limb x):=by
 induction es with
 | nil=>intro i x;simp [Zp]
 | cons e l ih =>
  intro i x
  match i with
  | 0=>simp [Zp]
  | 1=>simp [Zp]
  | 2=>simp [Zp]
  | 3=>simp [Zp]
  | i + 4=>simpa [Zp] using ih i x
theorem Zc4 {es : List FE} {i : Nat} {e : FE} (h : es[i]? = some e) : (Z3 es)[i * 4]? = some (.bool e.na) /\ (Z3 es)[i * 4 + 1]? = some (.slice e.A e.n e.c) /\ (Z3 es)[i * 4 + 2]? = some (.bool e.nb) /\ (Z3 es)[i * 4 + 3]? = some (.slice e.B e.m e.d):=by
 simpa [Z3] using Zes h
theorem Zbo (es : List FE) : NoLimb (Z3 es):=fun i x=>by simpa [Z3] using Zj4 es i x
def Zag : FE:=⟨false,none,0,0,false,none,0,0,0⟩
theorem Zaj (es fs : List FE) : Zp (es ++ fs) = Zp es ++ Zp fs:=by
 induction es with
 | nil=>rfl
 | cons e l ih=>simp only [List.cons_append,Zp,ih]
theorem Zim (fs : List FE) : ∀ u ∈ Zp fs,u.oneCell' = true:=by
 induction fs with
 | nil=>intro u h;simp [Zp] at h
 | cons e l ih =>
  intro u h;simp only [Zp,List.mem_cons] at h
  rcases h with rfl | rfl | rfl | rfl | h
  ·rfl
  ·rfl
  ·rfl
  ·rfl
  ·exact ih u h
theorem Zcr (k : Nat) : (Builtin.zeroCells #[.bool false,.slice none 0 0,.bool false,.slice none 0 0] k).toList = Zp (List.replicate k Zag):=by
 unfold Builtin.zeroCells
 apply List.ext_getElem?
 intro i
 by_cases h : i < k * 4
 ·have he : (List.replicate k Zag)[i / 4]? = some Zag:=by rw [List.getElem?_replicate,if_pos (by omega)]
  have hc:=Zes he
  have h4 : i % 4 = 0 \/ i % 4 = 1 \/ i % 4 = 2 \/ i % 4 = 3:=by omega
  rcases h4 with h2 | h2 | h2 | h2
  ·rw [show i / 4 * 4 = i by omega] at hc;rw [hc.1];simp [h,h2,Zag]
  ·rw [show i / 4 * 4 + 1 = i by omega] at hc;rw [hc.2.1];simp [h,h2,Zag]
  ·rw [show i / 4 * 4 + 2 = i by omega] at hc;rw [hc.2.2.1];simp [h,h2,Zag]
  ·rw [show i / 4 * 4 + 3 = i by omega] at hc;rw [hc.2.2.2];simp [h,h2,Zag]
 ·rw [List.getElem?_eq_none (by simp;omega),List.getElem?_eq_none (by rw [Zu];simp;omega)]
def RowF (t : TypeId) (w : World) (base : Nat) (v : Value) (es : List FE) : Prop:=
 (v = .slice none 0 0 /\ es = []) \/ ∃ g sp,v = .slice (some ⟨g,0,none⟩) es.length (es.length + sp) /\ base <= g /\ es.length + sp <= maxLen /\ Blk w g t (Z3 (es ++ List.replicate sp Zag))
section
variable {t : TypeId} {w w' : World} {base : Nat} {v : Value} {es : List FE}
theorem RowF.own (h : RowF t w base v es) : w.ownsRow base t 4 v es.length (Zp es):=by
 refine ⟨Zu es,?_⟩
 rcases h with ⟨h1,rfl⟩ | ⟨g,sp,h1,h2,h3,h4⟩
 ·exact .inl ⟨h1,rfl⟩
 ·refine .inr ⟨g,_,_,h1,h2,h4,Nat.le_add_right _ _,h3,?_,?_⟩
  ·simp [Z3,Zu]
  ·simp only [Z3]
   rw [Zaj,<- Zu es];exact List.take_left
theorem RowF.row_ge (h : RowF t w base v es) : ∀ k,v.ownBlock = some k -> base <= k:=fun k hk=>(h.own.lt k hk).1
theorem RowF.kept (h : RowF t w base v es) (hb : Below w.heap.size w w') : RowF t w' base v es:=by
 rcases h with h | ⟨g,sp,h1,h2,h3,h4⟩
 ·exact .inl h
 ·exact .inr ⟨g,sp,h1,h2,h3,Zb hb h4⟩
theorem RowF.keep (h : RowF t w base v es) (hg : w.grownBy w' v.ownBlock) {A : Option Addr} {n c : Nat} {l : List Nat} (hL : Lim w A n c l) : Lim w' A n c l:=by
 refine ⟨hL.1,hL.2.1,hL.2.2.1,hL.2.2.2.1,fun hn=>?_⟩;obtain ⟨b,o,e,hc⟩:=hL.2.2.2.2 hn;refine ⟨b,o,e,fun k hk=>?_⟩;rw [<- hc k hk];refine World.cell?_of_block (hg.block b (Zs (hc k hk)) (fun e'=>?_))
 rcases h with ⟨rfl,_⟩ | ⟨g,sp,rfl,_,_,h4⟩
 ·cases e'
 ·have hbg : b = g:=by simpa [Value.ownBlock] using e'
  subst hbg;have h1:=hc k hk;rw [h4.cell] at h1;exact Zbo _ _ _ h1
end
section
variable {P : Program} (w : World)
theorem Zh1 (base : Nat) (t ty e : TypeId) (i : TypeInfo) (ht : P.underlying t = some (.slice e)) (hi : P.info? e = some i) (hz : i.zero = some (.agg #[.bool false,.slice none 0 0,.bool false,.slice none 0 0]))
    (hs : i.size = 4) (hby : i.bytes = 64) (v : Value) (es : List FE) (hown : RowF e w base v es)
    (B : Nat) (A : Option Addr) (m c : Nat) (fs : List FE) (hr : Reads w B 4 A m (Zp fs)) (hm : fs.length = m) (h63 : es.length + m <= 1000) (hbase : base <= w.heap.size) :
    ∃ v' w',(Builtin.append_ #[t,t] ty #[v,.slice A m c]).run P w = .ok v' w' /\ RowF e w' base v' (es ++ fs) /\ w.grownBy w' v.ownBlock:=by
 rcases Nat.eq_zero_or_pos m with h0 | h0
 ·subst h0
  obtain rfl : fs = []:=List.eq_nil_of_length_eq_zero hm;rw [List.append_nil]
  rcases A with _ | ad
  ·exact ⟨v,w,Zbx w base t ty e i 4 ht hi v _ _ hown.own c,hown,World.grownBy.refl w _⟩
  ·have hf:=run_firstCells_some (P:=P) w i.size 0 ad 0 c [] (by simp) (by simp)
   rcases hown with ⟨rfl,rfl⟩ | ⟨g,sp,rfl,h2,h3,h4⟩
   ·refine ⟨.slice none 0 0,w,?_,.inl ⟨rfl,rfl⟩,World.grownBy.refl w _⟩
    simp [Builtin.append_,run_underlying ht,sizeOf,typeInfo,hi,Builtin.lenOf,Builtin.firstCells,loadCells,loadCellsFrom]
   ·refine ⟨_,w,?_,.inr ⟨g,sp,rfl,h2,h3,h4⟩,World.grownBy.refl w _⟩
    simp [Builtin.append_,run_underlying ht,sizeOf,typeInfo,hi,Builtin.lenOf,Builtin.firstCells,loadCells,loadCellsFrom,storeCells]
 ·obtain ⟨ad,rfl,_,hc⟩:=hr.2 h0
  have hl : (Zp fs).length = m * i.size:=by rw [Zu,hm,hs]
  have hle : es.length * i.size = (Zp es).length:=by rw [Zu,hs]
  rcases hown with ⟨rfl,rfl⟩ | ⟨g,sp,rfl,h2,h3,h4⟩
  ·have hrun:=run_append_nil (P:=P) w t ty e i _ ht hi hz ad m c (Zp fs) hl hc h0 (by omega) (by rw [hby];omega)
   have hge:=grownCap_ge w m 0 e;have hcm:=grownCap_le_maxLen w m 0 e (by unfold maxLen;simp only [List.length_nil] at h63;omega);refine ⟨_,_,hrun,.inr ⟨w.heap.size,grownCap w m 0 e - m,?_,hbase,?_,?_⟩,⟨rfl,rfl,rfl,by simp,fun k hk _=>Below.heap_alloc w.drew _ k hk⟩⟩
   ·rw [List.nil_append,hm,Nat.add_sub_cancel' hge]
   ·rw [List.nil_append,hm,Nat.add_sub_cancel' hge];exact hcm
   ·have:=heap_alloc_new w.drew (.cells ((Zp fs).toArray ++ Builtin.zeroCells (Value.agg #[.bool false,.slice none 0 0,.bool false,.slice none 0 0]).cells (grownCap w m 0 e - m)) e)
    unfold Blk;refine this.trans ?_
    congr 1
    have hx : (Zp fs).toArray ++ Builtin.zeroCells (Value.agg #[.bool false,.slice none 0 0,.bool false,.slice none 0 0]).cells (grownCap w m 0 e - m) = Z3 ([] ++ fs ++ List.replicate (grownCap w m 0 e - m) Zag):=by
     apply Array.toList_inj.1
     rw [Array.toList_append,show (Value.agg #[.bool false,.slice none 0 0,.bool false,.slice none 0 0]).cells = #[.bool false,.slice none 0 0,.bool false,.slice none 0 0] from rfl,Zcr]
     simp [Z3,Zaj]
    rw [hx]
  ·by_cases hroom : m <= sp
   ·have hrun:=run_append_room (P:=P) w t ty e i ht hi g es.length (es.length + sp) _ h4 ad m c (Zp fs) hl hc (Zim fs) (by omega) (by rw [hle,Zu,Zu];simp [Z3,Zu];omega)
    refine ⟨_,_,hrun,.inr ⟨g,sp - m,?_,h2,?_,?_⟩,⟨rfl,rfl,rfl,by simp [World.setRow],fun k _ hk=>setRow_other w g k _ (fun e'=>hk (by simp [Value.ownBlock,e']))⟩⟩
    ·rw [List.length_append,hm,show es.length + m + (sp - m) = es.length + sp by omega]
    ·rw [List.length_append,hm];omega
    ·refine (setRow_heap w g _ _ e _ h4).trans ?_
     congr 2
     unfold Z3
     congr 1
     rw [hle]
     have hrep : List.replicate sp Zag = List.replicate m Zag ++ List.replicate (sp - m) Zag:=by rw [List.replicate_append_replicate];congr 1;omega
     have hlm : (Zp fs).length = (Zp (List.replicate m Zag)).length:=by rw [Zu,Zu,hm,List.length_replicate]
     simp only [Zaj];rw [List.take_left,hlm,<- List.length_append,hrep,Zaj,<- List.append_assoc (Zp es),List.drop_left,List.append_assoc]
   ·have holds : ∀ j u,(Zp es)[j]? = some u -> w.cell? ((⟨g,0,none⟩ : Addr).add j) = some u:=fun j u hu=>by
      rw [Zg,Nat.zero_add,h4.cell];simp only [Z3,List.getElem?_toArray,Zaj];rw [List.getElem?_append_left (by rw [List.getElem?_eq_some_iff] at hu;exact hu.1)];exact hu
    have hrun:=run_append_grow (P:=P) w t ty e i _ ht hi hz ⟨g,0,none⟩ es.length (es.length + sp) (Zp es) hle.symm holds ad m c (Zp fs) hl hc (by omega) (by omega) (growslice_fits (by omega) (by rw [hby];omega));have hge:=grownCap_ge w (es.length + m) (es.length + sp) e;have hcm:=grownCap_le_maxLen w (es.length + m) (es.length + sp) e (by unfold maxLen;omega);refine ⟨_,_,hrun,.inr ⟨w.heap.size,grownCap w (es.length + m) (es.length + sp) e - (es.length + m),?_,hbase,?_,?_⟩,⟨rfl,rfl,rfl,by simp,fun k hk _=>Below.heap_alloc w.drew _ k hk⟩⟩
    ·rw [List.length_append,hm,Nat.add_sub_cancel' hge]
    ·rw [List.length_append,hm,Nat.add_sub_cancel' hge];exact hcm
    ·have:=heap_alloc_new w.drew (.cells ((Zp es).toArray ++ (Zp fs).toArray ++ Builtin.zeroCells (Value.agg #[.bool false,.slice none 0 0,.bool false,.slice none 0 0]).cells (grownCap w (es.length + m) (es.length + sp) e - (es.length + m))) e)
     unfold Blk;refine this.trans ?_
     congr 1
     have hx : (Zp es).toArray ++ (Zp fs).toArray ++ Builtin.zeroCells (Value.agg #[.bool false,.slice none 0 0,.bool false,.slice none 0 0]).cells (grownCap w (es.length + m) (es.length + sp) e - (es.length + m)) = Z3 (es ++ fs ++ List.replicate (grownCap w (es.length + m) (es.length + sp) e - (es.length + m)) Zag):=by
      apply Array.toList_inj.1
      rw [Array.toList_append,Array.toList_append,show (Value.agg #[.bool false,.slice none 0 0,.bool false,.slice none 0 0]).cells = #[.bool false,.slice none 0 0,.bool false,.slice none 0 0] from rfl,Zcr]
      simp [Z3,Zaj]
     rw [hx]
end
def OwnF (t : TypeId) (w : World) (base : Nat) (v : Value) (qs : List Rat) : Prop:=∃ es,RowF t w base v es /\ (∀ e ∈ es,e.in_ w) /\ es.map FE.q = qs
theorem Fr.of_keep {w w' : World} {na : Bool} {A : Option Addr} {n c : Nat} {nb : Bool} {B : Option Addr} {m d : Nat} {r : Rat} (h : Fr w na A n c nb B m d r) (hk : ∀ (A : Option Addr) (n c : Nat) (l : List Nat),Lim w A n c l -> Lim w' A n c l) : Fr w' na A n c nb B m d r:=⟨⟨h.1.1,h.1.2.1,hk _ _ _ _ h.1.2.2⟩,⟨h.2.1,h.2.2.1,hk _ _ _ _ h.2.2.2⟩⟩
section
variable {t : TypeId} {w w' : World} {base : Nat} {v : Value} {qs : List Rat}
theorem OwnF.nil (t : TypeId) (w : World) (base : Nat) : OwnF t w base (.slice none 0 0) []:=⟨[],.inl ⟨rfl,rfl⟩,fun e h=>by simp at h,rfl⟩
theorem OwnF.kept (h : OwnF t w base v qs) (hb : Below w.heap.size w w') : OwnF t w' base v qs:=by
 obtain ⟨es,h1,h2,h3⟩:=h;exact ⟨es,h1.kept hb,fun e he=>(h2 e he).below hb,h3⟩
theorem OwnF.row_ge (h : OwnF t w base v qs) : ∀ k,v.ownBlock = some k -> base <= k:=by obtain ⟨es,h1,_⟩:=h;exact h1.row_ge
def FL (w : World) (A : Option Addr) (n c : Nat) (qs : List Rat) : Prop:=
 ∃ es : List FE,es.length = n /\ n <= c /\ c <= maxLen /\ (∀ e ∈ es,e.in_ w) /\ es.map FE.q = qs /\ (0 < n -> ∃ g o,A = some ⟨g,o,none⟩ /\ ∀ (k : Nat) (e : FE),es[k]? = some e -> w.cell? ⟨g,o + k * 4,none⟩ = some (.bool e.na) /\ w.cell? ⟨g,o + (k * 4 + 1),none⟩ = some (.slice e.A e.n e.c) /\ w.cell? ⟨g,o + (k * 4 + 2),none⟩ = some (.bool e.nb) /\ w.cell? ⟨g,o + (k * 4 + 3),none⟩ = some (.slice e.B e.m e.d))
theorem OwnF.fl (h : OwnF t w base v qs) : ∃ A c,v = .slice A qs.length c /\ FL w A qs.length c qs:=by
 obtain ⟨es,h1,h2,rfl⟩:=h
 rcases h1 with ⟨rfl,rfl⟩ | ⟨g,sp,rfl,h4,h5,h6⟩
 ·exact ⟨none,0,rfl,[],rfl,Nat.le_refl _,Nat.zero_le _,fun e h=>by simp at h,rfl,fun h=>absurd h (by simp)⟩
 ·rw [List.length_map]
  refine ⟨_,es.length + sp,rfl,es,rfl,Nat.le_add_right _ _,h5,h2,rfl,fun _=>⟨g,0,rfl,fun k e he=>?_⟩⟩;have hk : k < es.length:=(List.getElem?_eq_some_iff.1 he).1;have hc:=Zc4 (es:=es ++ List.replicate sp Zag) (i:=k) (e:=e) (by rw [List.getElem?_append_left hk];exact he);simp only [Nat.zero_add,h6.cell];exact hc
theorem FL.below {A : Option Addr} {n c : Nat} (h : FL w A n c qs) (hb : Below w.heap.size w w') : FL w' A n c qs:=by
 obtain ⟨es,h1,h2,h3,h4,h5,h6⟩:=h;refine ⟨es,h1,h2,h3,fun e he=>(h4 e he).below hb,h5,fun hn=>?_⟩;obtain ⟨g,o,e1,hc⟩:=h6 hn;refine ⟨g,o,e1,fun k e he=>?_⟩;obtain ⟨a,b,c',d⟩:=hc k e he;exact ⟨(hb.cell (Zs a)).trans a,(hb.cell (Zs b)).trans b,(hb.cell (Zs c')).trans c',(hb.cell (Zs d)).trans d⟩
end
theorem Zal {w : World} {g : Nat} {t : TypeId} {na : Bool} {A : Option Addr} {n c : Nat} {nb : Bool} {B : Option Addr} {m d : Nat} (q : Rat) (h : Blk w g t #[.bool na,.slice A n c,.bool nb,.slice B m d]) : Reads w (g + 1) 4 (some ⟨g,0,none⟩) 1 (Zp [⟨na,A,n,c,nb,B,m,d,q⟩]):=
 ⟨rfl,fun _=>⟨_,rfl,Nat.lt_succ_self _,fun j u hu=>by
  rw [Zg,Nat.zero_add,h.cell]
  simpa [Zp] using hu⟩⟩
section
variable {P : Program} (w : World)
theorem Zio {o : Oper} {a : Act} {K : Act -> World -> Prop} {Q : Exit -> Act -> World -> Prop} (s x : Operand) (t : TypeId)
    (ho : o.op = .call { callee:=.builtin .append,args:=#[s,x],argTypes:=#[t,t] })
    (base : Nat) (e : TypeId) (i : TypeInfo) (ht : P.underlying t = some (.slice e)) (hi : P.info? e = some i) (hz : i.zero = some (.agg #[.bool false,.slice none 0 0,.bool false,.slice none 0 0])) (hsi : i.size = 4) (hby : i.bytes = 64)
    (v : Value) (qs : List Rat) (hs : a.eval s = v) (hown : OwnF e w base v qs)
    (B : Nat) (A : Option Addr) (m c : Nat) (fs : List FE) (hx : a.eval x = .slice A m c) (hr : Reads w B 4 A m (Zp fs)) (hm : fs.length = m) (hfs : ∀ e ∈ fs,e.in_ w)
    (h63 : qs.length + m <= 1000) (hbase : base <= w.heap.size)
    (h : ∀ v' w',OwnF e w' base v' (qs ++ fs.map FE.q) -> w.grownBy w' v.ownBlock -> (∀ (A : Option Addr) (n c : Nat) (l : List Nat),Lim w A n c l -> Lim w' A n c l) -> K (a.put o.dst v') w') : o.wp P a w K Q:=by
 obtain ⟨es,h1,h2,rfl⟩:=hown;rw [List.length_map] at h63;obtain ⟨v',w',hrun,h3,h4⟩:=Zh1 (P:=P) w base t o.type e i ht hi hz hsi hby v es h1 B A m c fs hr hm h63 hbase;unfold Oper.wp execOp;simp only [ho,resolve,invoke,builtin,Sem.run_bind,Sem.run_pure,Result.andThen_ok,List.map_toArray,List.map_cons,List.map_nil,hs,hx,hrun]
 have hk : ∀ (A : Option Addr) (n c : Nat) (l : List Nat),Lim w A n c l -> Lim w' A n c l:=fun _ _ _ _ hL=>h1.keep h4 hL
 refine h v' w' ⟨es ++ fs,h3,fun e he=>?_,by rw [List.map_append]⟩ h4 hk
 rcases List.mem_append.1 he with he | he
 ·exact (h2 e he).of_keep hk
 ·exact (hfs e he).of_keep hk
theorem Za3 {ops : Array Oper} {rest : List Oper} {o : Oper} {a : Act} {Q : Exit -> Act -> World -> Prop} (hgd : o.guard = none) (s x : Operand) (t : TypeId)
    (ho : o.op = .call { callee:=.builtin .append,args:=#[s,x],argTypes:=#[t,t] })
    (base : Nat) (e : TypeId) (i : TypeInfo) (ht : P.underlying t = some (.slice e)) (hi : P.info? e = some i) (hz : i.zero = some (.agg #[.bool false,.slice none 0 0,.bool false,.slice none 0 0])) (hsi : i.size = 4) (hby : i.bytes = 64)
    (v : Value) (qs : List Rat) (hs : a.eval s = v) (hown : OwnF e w base v qs)
    (B : Nat) (A : Option Addr) (m c : Nat) (fs : List FE) (hx : a.eval x = .slice A m c) (hr : Reads w B 4 A m (Zp fs)) (hm : fs.length = m) (hfs : ∀ e ∈ fs,e.in_ w)
    (h63 : qs.length + m <= 1000) (hbase : base <= w.heap.size)
    (h : ∀ v' w',OwnF e w' base v' (qs ++ fs.map FE.q) -> w.grownBy w' v.ownBlock -> (∀ (A : Option Addr) (n c : Nat) (l : List Nat),Lim w A n c l -> Lim w' A n c l) -> wpList P ops Q rest (a.put o.dst v') w') : wpList P ops Q (o :: rest) a w:=
 wpList_plain hgd fun _ hK=>Zio w s x t ho base e i ht hi hz hsi hby v qs hs hown B A m c fs hx hr hm hfs h63 hbase fun v' w' h2 h3 h4=>hK _ _ (h v' w' h2 h3 h4)
end
attribute [local go_sem] Zg
def okF (na : Bool) (la : List Nat) (nb : Bool) (lb : List Nat) : Bool:=okW na la && okW nb lb && !nb && decide (0 < lb.length) && decide (Nat.gcd (val la) (val lb) = 1)
def qOf (na : Bool) (la lb : List Nat) : Rat:=Rat.divInt (sg na (val la)) (val lb : Nat)
theorem Zlt {w : World} {na nb : Bool} {A B : Option Addr} {n c m d : Nat} {la lb : List Nat} (ha : Lim w A n c la) (hb : Lim w B m d lb) (hk : okF na la nb lb = true) : Fr w na A n c nb B m d (qOf na la lb):=by
 simp only [okF,Bool.and_eq_true,Bool.not_eq_true',decide_eq_true_eq] at hk;obtain ⟨⟨⟨⟨k1,k2⟩,rfl⟩,k4⟩,k5⟩:=hk;have h2:=(Zgs hb.lt).1 k2;have e2 : (sg false (val lb)).natAbs = val lb:=Zw _ _;rw [e2] at h2
 have hp : 0 < val lb:=by
  rw [h2.2.2] at k4;exact length_digits_pos.1 k4
 have hl : Low (sg na (val la)) (val lb : Nat):=⟨by omega,by rw [Zw,Int.natAbs_natCast];exact k5⟩;obtain ⟨r1,r2⟩:=rat_low hl;have w1:=Wd.of_ok ha k1;have w2:=Wd.of_ok hb k2;have e3 : sg false (val lb) = (val lb : Nat):=rfl;rw [e3] at w2;refine ⟨?_,?_⟩
 ·unfold qOf;rw [r1];exact w1
 ·unfold qOf;rw [r2];exact w2
theorem Znv (na nb : Bool) (A B : Option Addr) (n c m d : Nat) (la lb : List Nat) (w : World) (ha : Lim w A n c la) (hb : Lim w B m d lb) (hbad : (okW na la && okW nb lb) = false) :
    Calls Tryz.prog 116 #[.agg #[.bool na,.slice A n c,.bool nb,.slice B m d]] w fun e w'=>e = .returned (.int .i64 8) /\ Below w.heap.size w w':=by
 have hmx : Tryz.prog.follows .mixedOrders = true:=by kernel_rfl
 obtain ⟨W0,hW0,hB0,q0,s0⟩:=Zav w 29 #[.bool na,.slice A n c,.bool nb,.slice B m d];have hA:=Za (ha.below hB0);have hD:=Za (hb.below hB0);clear ha hb;obtain ⟨a0,a1,a2,a3,-⟩:=q0.four;replace q0:=Za q0;go_enter Tryz.func116,Tryz.ntmps116;go_wp2_with fail;refine (Gcd_bad na nb A B n c m d la lb W0 hA.out hD.out hbad).mono ?_;rintro e w1 ⟨rfl,hb1⟩;have hB1 : Below w.heap.size w w1:=hB0.trans (hb1.mono hB0.size);clear hW0 a0 a1 a2 a3 hb1;obtain ⟨W4,hW4,hB4,q4,kW,kB,s4⟩:=Z5 27 #[.bool false,.slice none 0 0] hB1 hB1.size;obtain ⟨g0,g1,f0,f1⟩:=q4.two;go_wp2_with fail;refine Z0 [] (fun wx=>True) hmx trivial (fun _=>?_);refine Ze (i:=0) rfl (by kernel_rfl) (fun K hK=>?_);go_simp;refine hK.out _ _ (fun _=>trivial) ?_;clear hK K
 try simp only [Act.put,putL_a,putL_z,putL_s]
 refine Ze (i:=1) rfl (by kernel_rfl) (fun K hK=>?_);go_simp;refine hK.out _ _ (fun _=>trivial) ?_;clear hK K
 try simp only [Act.put,putL_a,putL_z,putL_s]
 refine Ze (i:=2) rfl (by kernel_rfl) (fun K hK=>?_);go_simp;refine hK.out _ _ (fun _=>trivial) ?_;clear hK K
 try simp only [Act.put,putL_a,putL_z,putL_s]
 refine Ze (i:=3) rfl (by kernel_rfl) (fun K hK=>?_);go_simp;refine hK.out _ _ (fun _=>trivial) ?_;clear hK K
 try simp only [Act.put,putL_a,putL_z,putL_s]
 refine Ze (i:=4) rfl (by kernel_rfl) (fun K hK=>?_);go_simp;refine hK.out _ _ (fun _=>trivial) ?_;clear hK K
 try simp only [Act.put,putL_a,putL_z,putL_s]
 refine Ze (i:=5) rfl (by kernel_rfl) (fun K hK=>?_);go_simp;refine hK.out _ _ (fun _=>trivial) ?_;clear hK K
 try simp only [Act.put,putL_a,putL_z,putL_s]
 refine Ze (i:=6) rfl (by kernel_rfl) (fun K hK=>?_);go_simp;refine hK.out _ _ (fun _=>trivial) ?_;clear hK K
 try simp only [Act.put,putL_a,putL_z,putL_s]
 refine Ze (i:=7) rfl (by kernel_rfl) (fun K hK=>?_);go_simp;refine hK.out _ _ (fun _=>trivial) ?_;clear hK K
 try simp only [Act.put,putL_a,putL_z,putL_s]
 refine Ze (i:=8) rfl (by kernel_rfl) (fun K hK=>?_);go_simp;refine hK.out _ _ (fun _=>trivial) ?_;clear hK K
 try simp only [Act.put,putL_a,putL_z,putL_s]
 refine Ze (i:=9) rfl (by kernel_rfl) (fun K hK=>?_);go_simp;refine hK.out _ _ (fun _=>trivial) ?_;clear hK K
 try simp only [Act.put,putL_a,putL_z,putL_s]
 refine Ze (i:=10) rfl (by kernel_rfl) (fun K hK=>?_);go_simp;refine hK.out _ _ (fun _=>trivial) ?_;clear hK K
 try simp only [Act.put,putL_a,putL_z,putL_s]
 refine Ze (i:=11) rfl (by kernel_rfl) (fun K hK=>?_);go_simp;refine hK.out _ _ (fun _=>trivial) ?_;clear hK K
 try simp only [Act.put,putL_a,putL_z,putL_s]
 refine Ze (i:=12) rfl (by kernel_rfl) (fun K hK=>?_);go_simp;refine hK.out _ _ (fun _=>trivial) ?_;clear hK K
 try simp only [Act.put,putL_a,putL_z,putL_s]
 refine Zd (i:=13) (v:=undef) rfl (by kernel_rfl) (by kernel_rfl) (by kernel_rfl) (by kernel_rfl) (by kernel_rfl) (Or.inr ⟨by rfl,rfl⟩) trivial ?_
 try simp only [Act.put,putL_a,putL_z,putL_s]
 refine Ze (i:=14) rfl (by kernel_rfl) (fun K hK=>?_);go_simp;refine hK.out _ _ (fun _=>trivial) ?_;clear hK K
 try simp only [Act.put,putL_a,putL_z,putL_s]
 refine Ze (i:=15) rfl (by kernel_rfl) (fun K hK=>?_);go_simp;refine hK.out _ _ (fun _=>trivial) ?_;clear hK K
 try simp only [Act.put,putL_a,putL_z,putL_s]
 refine Ze (i:=16) rfl (by kernel_rfl) (fun K hK=>?_);go_simp;refine hK.out _ _ (fun _=>trivial) ?_;clear hK K
 try simp only [Act.put,putL_a,putL_z,putL_s]
 refine Ze (i:=17) rfl (by kernel_rfl) (fun K hK=>?_);go_simp;refine hK.out _ _ (fun _=>trivial) ?_;clear hK K
 try simp only [Act.put,putL_a,putL_z,putL_s]
 refine Zj (by kernel_rfl) ?_ _;refine OnlyNormal.normal ?_;go_wp2_with fail;go_ret;exact ⟨rfl,Zh ((hB4.setCell (p:=⟨w1.heap.size,0,none⟩) hB1.size (.bool false)).setCell (p:=⟨w1.heap.size,1,none⟩) hB1.size (.slice none 0 0)) 1⟩
theorem Zm7 (na : Bool) (A B : Option Addr) (n c m d : Nat) (za zb : Int) (w : World) (ha : Wd w na A n c za) (hb : Wd w true B m d zb) :
    Calls Tryz.prog 116 #[.agg #[.bool na,.slice A n c,.bool true,.slice B m d]] w fun e w'=>e = .returned (.int .i64 8) /\ Below w.heap.size w w':=by
 have hmx : Tryz.prog.follows .mixedOrders = true:=by kernel_rfl
 have hgs : Nat.gcd za.natAbs zb.natAbs < pw 4096:=Zcl ha.small hb.small;obtain ⟨W0,hW0,hB0,q0,s0⟩:=Zav w 29 #[.bool na,.slice A n c,.bool true,.slice B m d];have hA:=Za (ha.below hB0);have hD:=Za (hb.below hB0);clear ha hb;obtain ⟨a0,a1,a2,a3,-⟩:=q0.four;go_enter Tryz.func116,Tryz.ntmps116;go_wp2_with fail;refine (Zi5 na true A B n c m d za zb W0 hA.out hD.out).mono ?_;rintro e w1 ⟨hb1,ng,Ag,kg,cg,code,rfl,hR⟩
 rcases hR with ⟨-,rfl,hgw⟩ | ⟨hbig,-⟩
 case inr=>exact absurd hbig (by omega)
 have hB1 : Below w.heap.size w w1:=hB0.trans (hb1.mono hB0.size);replace q0:=Zb hb1 q0;clear hW0 a0 a1 a2 a3 hb1;obtain ⟨W4,hW4,hB4,q4,kW,kB,s4⟩:=Z5 27 #[.bool ng,.slice Ag kg cg] hB1 hB1.size;replace q0:=kB _ _ _ q0;obtain ⟨g0,g1,f0,f1⟩:=q4.two;obtain ⟨a0,a1,a2,a3,-⟩:=q0.four;go_wp2_with fail;refine Z0 [] (fun wx=>wx.cell? ⟨w.heap.size,2,none⟩ = some (.bool true)) hmx a2 (fun _=>?_);refine Ze (i:=0) rfl (by kernel_rfl) (fun K hK=>?_);go_simp;refine hK.out _ _ (fun _=>a2) ?_;clear hK K
 try simp only [Act.put,putL_a,putL_z,putL_s]
 refine Ze (i:=1) rfl (by kernel_rfl) (fun K hK=>?_);go_simp;refine hK.out _ _ (fun _=>a2) ?_;clear hK K
 try simp only [Act.put,putL_a,putL_z,putL_s]
 refine Ze (i:=2) rfl (by kernel_rfl) (fun K hK=>?_);go_simp;refine hK.out _ _ (fun _=>a2) ?_;clear hK K
 try simp only [Act.put,putL_a,putL_z,putL_s]
 refine Ze (i:=3) rfl (by kernel_rfl) (fun K hK=>?_);go_simp;refine hK.out _ _ (fun _=>a2) ?_;clear hK K
 try simp only [Act.put,putL_a,putL_z,putL_s]
 refine Ze (i:=4) rfl (by kernel_rfl) (fun K hK=>?_);go_simp;refine hK.out _ _ (fun _=>a2) ?_;clear hK K
 try simp only [Act.put,putL_a,putL_z,putL_s]
 refine Ze (i:=5) rfl (by kernel_rfl) (fun K hK=>?_);go_simp;refine hK.out _ _ (fun _=>a2) ?_;clear hK K
 try simp only [Act.put,putL_a,putL_z,putL_s]
 refine Ze (i:=6) rfl (by kernel_rfl) (fun K hK=>?_);go_simp;refine hK.out _ _ (fun _=>a2) ?_;clear hK K
 try simp only [Act.put,putL_a,putL_z,putL_s]
 refine Ze (i:=7) rfl (by kernel_rfl) (fun K hK=>?_);go_simp;refine hK.out _ _ (fun _=>a2) ?_;clear hK K
 try simp only [Act.put,putL_a,putL_z,putL_s]
 refine Ze (i:=8) rfl (by kernel_rfl) (fun K hK=>?_);go_simp;refine hK.out _ _ (fun _=>a2) ?_;clear hK K
 try simp only [Act.put,putL_a,putL_z,putL_s]
 refine Ze (i:=9) rfl (by kernel_rfl) (fun K hK=>?_);go_simp;refine hK.out _ _ (fun _=>a2) ?_;clear hK K
 try simp only [Act.put,putL_a,putL_z,putL_s]
 refine Ze (i:=10) rfl (by kernel_rfl) (fun K hK=>?_);go_simp;refine hK.out _ _ (fun _=>a2) ?_;clear hK K
 try simp only [Act.put,putL_a,putL_z,putL_s]
 refine Ze (i:=11) rfl (by kernel_rfl) (fun K hK=>?_);go_simp;refine hK.out _ _ (fun _=>a2) ?_;clear hK K
 try simp only [Act.put,putL_a,putL_z,putL_s]
 refine Ze (i:=12) rfl (by kernel_rfl) (fun K hK=>?_);go_simp;refine hK.out _ _ (fun _=>a2) ?_;clear hK K
 try simp only [Act.put,putL_a,putL_z,putL_s]
 refine Zd (i:=13) (v:=undef) rfl (by kernel_rfl) (by kernel_rfl) (by kernel_rfl) (by kernel_rfl) (by kernel_rfl) (Or.inr ⟨by rfl,rfl⟩) a2 ?_
 try simp only [Act.put,putL_a,putL_z,putL_s]
 refine Ze (i:=14) rfl (by kernel_rfl) (fun K hK=>?_);go_simp;refine hK.out _ _ (fun _=>a2) ?_;clear hK K
 try simp only [Act.put,putL_a,putL_z,putL_s]
 refine Ze (i:=15) rfl (by kernel_rfl) (fun K hK=>?_);go_simp;refine hK.out _ _ (fun _=>a2) ?_;clear hK K
 try simp only [Act.put,putL_a,putL_z,putL_s]
 refine Ze (i:=16) rfl (by kernel_rfl) (fun K hK=>?_);go_simp;refine hK.out _ _ (fun _=>a2) ?_;clear hK K
 try simp only [Act.put,putL_a,putL_z,putL_s]
 refine Ze (i:=17) rfl (by kernel_rfl) (fun K hK=>?_);go_simp;refine hK.out _ _ (fun _=>a2) ?_;clear hK K
 try simp only [Act.put,putL_a,putL_z,putL_s]
 refine Zj (by kernel_rfl) ?_ _;refine OnlyNormal.normal ?_;go_wp2_with fail;go_ret;exact ⟨rfl,Zh hB4 1⟩
theorem Zm4 (na : Bool) (A B : Option Addr) (n c d : Nat) (za : Int) (w : World) (ha : Wd w na A n c za) (hb : Wd w false B 0 d 0) :
    Calls Tryz.prog 116 #[.agg #[.bool na,.slice A n c,.bool false,.slice B 0 d]] w fun e w'=>e = .returned (.int .i64 8) /\ Below w.heap.size w w':=by
 have hmx : Tryz.prog.follows .mixedOrders = true:=by kernel_rfl
 have hgs : Nat.gcd za.natAbs (Int.natAbs 0) < pw 4096:=Zcl ha.small hb.small;obtain ⟨W0,hW0,hB0,q0,s0⟩:=Zav w 29 #[.bool na,.slice A n c,.bool false,.slice B 0 d];have hA:=Za (ha.below hB0);have hD:=Za (hb.below hB0);clear ha hb;obtain ⟨a0,a1,a2,a3,-⟩:=q0.four;go_enter Tryz.func116,Tryz.ntmps116;go_wp2_with fail;refine (Zi5 na false A B n c 0 d za 0 W0 hA.out hD.out).mono ?_;rintro e w1 ⟨hb1,ng,Ag,kg,cg,code,rfl,hR⟩
 rcases hR with ⟨-,rfl,hgw⟩ | ⟨hbig,-⟩
 case inr=>exact absurd hbig (by omega)
 have hB1 : Below w.heap.size w w1:=hB0.trans (hb1.mono hB0.size);replace q0:=Zb hb1 q0;clear hW0 a0 a1 a2 a3 hb1;obtain ⟨W4,hW4,hB4,q4,kW,kB,s4⟩:=Z5 27 #[.bool ng,.slice Ag kg cg] hB1 hB1.size;replace q0:=kB _ _ _ q0;obtain ⟨g0,g1,f0,f1⟩:=q4.two;obtain ⟨a0,a1,a2,a3,-⟩:=q0.four;go_wp2_with fail;refine Z0 [] (fun wx=>wx.cell? ⟨w.heap.size,2,none⟩ = some (.bool false) /\ wx.cell? ⟨w.heap.size,3,none⟩ = some (.slice B 0 d)) hmx ⟨a2,a3⟩ (fun _=>?_);refine Ze (i:=0) rfl (by kernel_rfl) (fun K hK=>?_);go_simp;refine hK.out _ _ (fun _=>⟨a2,a3⟩) ?_;clear hK K
 try simp only [Act.put,putL_a,putL_z,putL_s]
 refine Ze (i:=1) rfl (by kernel_rfl) (fun K hK=>?_);go_simp;refine hK.out _ _ (fun _=>⟨a2,a3⟩) ?_;clear hK K
 try simp only [Act.put,putL_a,putL_z,putL_s]
 refine Ze (i:=2) rfl (by kernel_rfl) (fun K hK=>?_);go_simp;refine hK.out _ _ (fun _=>⟨a2,a3⟩) ?_;clear hK K
 try simp only [Act.put,putL_a,putL_z,putL_s]
 refine Ze (i:=3) rfl (by kernel_rfl) (fun K hK=>?_);go_simp;refine hK.out _ _ (fun _=>⟨a2,a3⟩) ?_;clear hK K
 try simp only [Act.put,putL_a,putL_z,putL_s]
 refine Ze (i:=4) rfl (by kernel_rfl) (fun K hK=>?_);go_simp;refine hK.out _ _ (fun _=>⟨a2,a3⟩) ?_;clear hK K
 try simp only [Act.put,putL_a,putL_z,putL_s]
 refine Ze (i:=5) rfl (by kernel_rfl) (fun K hK=>?_);go_simp;refine hK.out _ _ (fun _=>⟨a2,a3⟩) ?_;clear hK K
 try simp only [Act.put,putL_a,putL_z,putL_s]
 refine Ze (i:=6) rfl (by kernel_rfl) (fun K hK=>?_);go_simp;refine hK.out _ _ (fun _=>⟨a2,a3⟩) ?_;clear hK K
 try simp only [Act.put,putL_a,putL_z,putL_s]
 refine Ze (i:=7) rfl (by kernel_rfl) (fun K hK=>?_);go_simp;refine hK.out _ _ (fun _=>⟨a2,a3⟩) ?_;clear hK K
 try simp only [Act.put,putL_a,putL_z,putL_s]
 refine Ze (i:=8) rfl (by kernel_rfl) (fun K hK=>?_);go_simp;refine hK.out _ _ (fun _=>⟨a2,a3⟩) ?_;clear hK K
 try simp only [Act.put,putL_a,putL_z,putL_s]
 refine Ze (i:=9) rfl (by kernel_rfl) (fun K hK=>?_);go_simp;refine hK.out _ _ (fun _=>⟨a2,a3⟩) ?_;clear hK K
 try simp only [Act.put,putL_a,putL_z,putL_s]
 refine Ze (i:=10) rfl (by kernel_rfl) (fun K hK=>?_);go_simp;refine (Zea _ _ _ _ _ (by omega) true rfl).mono ?_;rintro e w3 ⟨rfl,hb3⟩;have hb3':=Zq hb3;have k2:=Zc hb3' a2;have k3:=Zc hb3' a3;refine hK.out _ _ (fun _=>⟨k2,k3⟩) ?_;clear hK K
 try simp only [Act.put,putL_a,putL_z,putL_s]
 refine Ze (i:=11) rfl (by kernel_rfl) (fun K hK=>?_);go_simp;refine hK.out _ _ (fun _=>⟨k2,k3⟩) ?_;clear hK K
 try simp only [Act.put,putL_a,putL_z,putL_s]
 refine Ze (i:=12) rfl (by kernel_rfl) (fun K hK=>?_);go_simp;refine hK.out _ _ (fun _=>⟨k2,k3⟩) ?_;clear hK K
 try simp only [Act.put,putL_a,putL_z,putL_s]
 refine Zd (i:=13) (v:=undef) rfl (by kernel_rfl) (by kernel_rfl) (by kernel_rfl) (by kernel_rfl) (by kernel_rfl) (Or.inr ⟨by rfl,rfl⟩) ⟨k2,k3⟩ ?_
 try simp only [Act.put,putL_a,putL_z,putL_s]
 refine Ze (i:=14) rfl (by kernel_rfl) (fun K hK=>?_);go_simp;refine hK.out _ _ (fun _=>⟨k2,k3⟩) ?_;clear hK K
 try simp only [Act.put,putL_a,putL_z,putL_s]
 refine Ze (i:=15) rfl (by kernel_rfl) (fun K hK=>?_);go_simp;refine hK.out _ _ (fun _=>⟨k2,k3⟩) ?_;clear hK K
 try simp only [Act.put,putL_a,putL_z,putL_s]
 refine Ze (i:=16) rfl (by kernel_rfl) (fun K hK=>?_);go_simp;refine hK.out _ _ (fun _=>⟨k2,k3⟩) ?_;clear hK K
 try simp only [Act.put,putL_a,putL_z,putL_s]
 refine Ze (i:=17) rfl (by kernel_rfl) (fun K hK=>?_);go_simp;refine hK.out _ _ (fun _=>⟨k2,k3⟩) ?_;clear hK K
 try simp only [Act.put,putL_a,putL_z,putL_s]
 refine Zj (by kernel_rfl) ?_ _;refine OnlyNormal.normal ?_;go_wp2_with fail;go_ret;exact ⟨rfl,hB4.trans (hb3'.mono hB4.size)⟩
theorem Zoj (na nb : Bool) (A B : Option Addr) (n c m d : Nat) (la lb : List Nat) (w : World) (ha : Lim w A n c la) (hb : Lim w B m d lb) (x : Bool) (hx : okF na la nb lb = x) :
    Calls Tryz.prog 116 #[.agg #[.bool na,.slice A n c,.bool nb,.slice B m d]] w fun e w'=>e = .returned (.int .i64 (Zet x)) /\ Below w.heap.size w w':=by
 cases x
 ·simp only [okF,Bool.and_eq_false_iff,Bool.not_eq_false',decide_eq_false_iff_not] at hx
  by_cases h1 : (okW na la && okW nb lb) = true
  ·have h1':=h1
   rw [Bool.and_eq_true] at h1;have hA:=Wd.of_ok ha h1.1;have hD:=Wd.of_ok hb h1.2
   cases nb
   ·by_cases hz : 0 < lb.length
    ·have e3 : sg false (val lb) = (val lb : Nat):=rfl
     rw [e3] at hD;have h2:=(Zgs hb.lt).1 h1.2;have e2 : (sg false (val lb)).natAbs = val lb:=Zw _ _;rw [e2] at h2
     have hp : 0 < val lb:=by
      rw [h2.2.2] at hz;exact length_digits_pos.1 hz
     refine Zie na A B n c m d _ _ w hA hD (by omega) false ?_;rw [Zw,Int.natAbs_natCast]
     rcases hx with (((hx | hx) | hx) | hx) | hx
     ·rw [h1.1] at hx;cases hx
     ·rw [h1.2] at hx;cases hx
     ·cases hx
     ·omega
     ·simp;omega
    ·have hl0 : lb = []:=List.eq_nil_of_length_eq_zero (by omega)
     subst hl0;have hm : m = 0:=hb.len.symm;subst hm;exact Zm4 na A B n c d _ w hA hD
   ·exact Zm7 na A B n c m d _ _ w hA hD
  ·exact Znv na nb A B n c m d la lb w ha hb (by simpa using h1)
 ·exact Zb8 na nb A B n c m d _ w (Zlt ha hb hx)
structure FX where
 na : Bool
 A : Option Addr
 n : Nat
 c : Nat
 la : List Nat
 nb : Bool
 B : Option Addr
 m : Nat
 d : Nat
 lb : List Nat
def FX.in_ (w : World) (e : FX) : Prop:=Lim w e.A e.n e.c e.la /\ Lim w e.B e.m e.d e.lb
def FX.ok (e : FX) : Bool:=okF e.na e.la e.nb e.lb
def FX.q (e : FX) : Rat:=qOf e.na e.la e.lb
def FX.few (e : FX) : Nat:=max e.n e.m
def At4 (w : World) (g o : Nat) (na : Bool) (A : Option Addr) (n c : Nat) (nb : Bool) (B : Option Addr) (m d : Nat) : Prop:=
 w.cell? ⟨g,o,none⟩ = some (.bool na) /\ w.cell? ⟨g,o + 1,none⟩ = some (.slice A n c) /\ w.cell? ⟨g,o + 2,none⟩ = some (.bool nb) /\ w.cell? ⟨g,o + 3,none⟩ = some (.slice B m d)
theorem At4.below {w w' : World} {g o : Nat} {na : Bool} {A : Option Addr} {n c : Nat} {nb : Bool} {B : Option Addr} {m d : Nat} (h : At4 w g o na A n c nb B m d) (hb : Below w.heap.size w w') : At4 w' g o na A n c nb B m d:=
 ⟨Zc hb h.1,Zc hb h.2.1,Zc hb h.2.2.1,Zc hb h.2.2.2⟩
def FXL (w : World) (A : Option Addr) (n c : Nat) (es : List FX) : Prop:=
 es.length = n /\ n <= c /\ c <= maxLen /\ (∀ e ∈ es,e.in_ w) /\ (0 < n -> ∃ g o,A = some ⟨g,o,none⟩ /\ ∀ (k : Nat) (e : FX),es[k]? = some e -> At4 w g (o + k * 4) e.na e.A e.n e.c e.nb e.B e.m e.d)
section
variable {w w' : World} {A : Option Addr} {n c : Nat} {es : List FX}
theorem FX.in_below {e : FX} (h : e.in_ w) (hb : Below w.heap.size w w') : e.in_ w':=⟨h.1.below hb,h.2.below hb⟩
theorem FXL.below (h : FXL w A n c es) (hb : Below w.heap.size w w') : FXL w' A n c es:=by
 obtain ⟨h1,h2,h3,h4,h5⟩:=h;refine ⟨h1,h2,h3,fun e he=>FX.in_below (h4 e he) hb,fun hn=>?_⟩;obtain ⟨g,o,e1,hc⟩:=h5 hn;exact ⟨g,o,e1,fun k e he=>(hc k e he).below hb⟩
theorem FXL.at_ (h : FXL w A n c es) {k : Nat} (hk : k < n) : ∃ g o e,A = some ⟨g,o,none⟩ /\ es[k]? = some e /\ At4 w g (o + k * 4) e.na e.A e.n e.c e.nb e.B e.m e.d /\ Lim w e.A e.n e.c e.la /\ Lim w e.B e.m e.d e.lb:=by
 obtain ⟨h1,-,-,h4,h5⟩:=h;obtain ⟨g,o,e1,hc⟩:=h5 (by omega);have he:=List.getElem?_eq_getElem (l:=es) (i:=k) (by omega);have hi:=h4 es[k] (List.getElem_mem _);exact ⟨g,o,es[k],e1,he,hc k _ he,hi.1,hi.2⟩
theorem FXL.fl (h : FXL w A n c es) (hk : ∀ e ∈ es,e.ok = true) : FL w A n c (es.map FX.q):=by
 obtain ⟨h1,h2,h3,h4,h5⟩:=h;refine ⟨es.map fun e=>⟨e.na,e.A,e.n,e.c,e.nb,e.B,e.m,e.d,e.q⟩,by simp [h1],h2,h3,fun e he=>?_,by rw [List.map_map];rfl,fun hn=>?_⟩
 ·obtain ⟨x,hx,rfl⟩:=List.mem_map.1 he
  exact Zlt (h4 x hx).1 (h4 x hx).2 (hk x hx)
 ·obtain ⟨g,o,e1,hc⟩:=h5 hn
  refine ⟨g,o,e1,fun k e he=>?_⟩;rw [List.getElem?_map] at he;obtain ⟨x,hx,rfl⟩:=Option.map_eq_some_iff.1 he;exact hc k x hx
end
structure RX where
 A : Option Addr
 n : Nat
 c : Nat
 es : List FX
def MXL (w : World) (A : Option Addr) (n c : Nat) (rs : List RX) : Prop:=
 rs.length = n /\ n <= c /\ c <= maxLen /\ (∀ r ∈ rs,FXL w r.A r.n r.c r.es) /\ (0 < n -> ∃ g o,A = some ⟨g,o,none⟩ /\ ∀ (k : Nat) (r : RX),rs[k]? = some r -> w.cell? ⟨g,o + k,none⟩ = some (.slice r.A r.n r.c))
def MFL (w : World) (A : Option Addr) (n c : Nat) (Q : List (List Rat)) : Prop:=
 Q.length = n /\ n <= c /\ c <= maxLen /\ (0 < n -> ∃ g o,A = some ⟨g,o,none⟩ /\ ∀ (k : Nat) (q : List Rat),Q[k]? = some q -> ∃ A' n' c',w.cell? ⟨g,o + k,none⟩ = some (.slice A' n' c') /\ FL w A' n' c' q)
section
variable {w w' : World} {A : Option Addr} {n c : Nat} {rs : List RX} {Q : List (List Rat)} {qs : List Rat}
theorem MXL.below (h : MXL w A n c rs) (hb : Below w.heap.size w w') : MXL w' A n c rs:=by
 obtain ⟨h1,h2,h3,h4,h5⟩:=h;refine ⟨h1,h2,h3,fun r hr=>(h4 r hr).below hb,fun hn=>?_⟩;obtain ⟨g,o,e1,hc⟩:=h5 hn;exact ⟨g,o,e1,fun k r hr=>Zc hb (hc k r hr)⟩
theorem MXL.at_ (h : MXL w A n c rs) {k : Nat} (hk : k < n) : ∃ g o r,A = some ⟨g,o,none⟩ /\ rs[k]? = some r /\ w.cell? ⟨g,o + k,none⟩ = some (.slice r.A r.n r.c) /\ FXL w r.A r.n r.c r.es:=by
 obtain ⟨h1,-,-,h4,h5⟩:=h;obtain ⟨g,o,e1,hc⟩:=h5 (by omega);have he:=List.getElem?_eq_getElem (l:=rs) (i:=k) (by omega);exact ⟨g,o,rs[k],e1,he,hc k _ he,h4 rs[k] (List.getElem_mem _)⟩
theorem MXL.mfl (h : MXL w A n c rs) (hk : ∀ r ∈ rs,∀ e ∈ r.es,e.ok = true) : MFL w A n c (rs.map fun r=>r.es.map FX.q):=by
 obtain ⟨h1,h2,h3,h4,h5⟩:=h;refine ⟨by simp [h1],h2,h3,fun hn=>?_⟩;obtain ⟨g,o,e1,hc⟩:=h5 hn;refine ⟨g,o,e1,fun k q hq=>?_⟩;rw [List.getElem?_map] at hq;obtain ⟨r,hr,rfl⟩:=Option.map_eq_some_iff.1 hq;exact ⟨r.A,r.n,r.c,hc k r hr,(h4 r (List.mem_of_getElem? hr)).fl (hk r (List.mem_of_getElem? hr))⟩
theorem MFL.below (h : MFL w A n c Q) (hb : Below w.heap.size w w') : MFL w' A n c Q:=by
 obtain ⟨h1,h2,h3,h5⟩:=h;refine ⟨h1,h2,h3,fun hn=>?_⟩;obtain ⟨g,o,e1,hc⟩:=h5 hn;refine ⟨g,o,e1,fun k q hq=>?_⟩;obtain ⟨A',n',c',h6,h7⟩:=hc k q hq;exact ⟨A',n',c',Zc hb h6,h7.below hb⟩
theorem MFL.at_ (h : MFL w A n c Q) {k : Nat} (hk : k < n) : ∃ g o A' n' c',A = some ⟨g,o,none⟩ /\ w.cell? ⟨g,o + k,none⟩ = some (.slice A' n' c') /\ FL w A' n' c' (Q[k]?.getD []):=by
 obtain ⟨h1,-,-,h5⟩:=h;obtain ⟨g,o,e1,hc⟩:=h5 (by omega);have he:=List.getElem?_eq_getElem (l:=Q) (i:=k) (by omega);obtain ⟨A',n',c',h6,h7⟩:=hc k _ he;rw [he];exact ⟨g,o,A',n',c',e1,h6,h7⟩
theorem FL.len (h : FL w A n c qs) : qs.length = n:=by obtain ⟨es,h1,-,-,-,h5,-⟩:=h;rw [<- h5,List.length_map,h1]
theorem FL.cap (h : FL w A n c qs) : n <= c /\ c <= maxLen:=by obtain ⟨es,h1,h2,h3,-⟩:=h;exact ⟨h2,h3⟩
theorem FL.at_ (h : FL w A n c qs) {k : Nat} (hk : k < n) : ∃ g o na A1 n1 c1 nb B m d,A = some ⟨g,o,none⟩ /\ At4 w g (o + k * 4) na A1 n1 c1 nb B m d /\ Fr w na A1 n1 c1 nb B m d (qs[k]?.getD 0):=by
 obtain ⟨es,h1,-,-,h4,rfl,h5⟩:=h;obtain ⟨g,o,e1,hc⟩:=h5 (by omega);have he:=List.getElem?_eq_getElem (l:=es) (i:=k) (by omega);refine ⟨g,o,es[k].na,es[k].A,es[k].n,es[k].c,es[k].nb,es[k].B,es[k].m,es[k].d,e1,hc k _ he,?_⟩;rw [List.getElem?_map,he];exact h4 es[k] (List.getElem_mem _)
end
theorem Zrx (z : Int) (w : World) :
    Calls Tryz.prog 192 #[.int .i64 z,.int .i64 0] w fun e w'=>e = .returned (.int .i64 z) /\ w' = w:=by
 go_enter Tryz.func192,Tryz.ntmps192;go_wp2_with fail;refine (Zc2 0 w).mono ?_;rintro e w1 ⟨rfl,rfl⟩;go_wp2_with fail;go_returns;exact ⟨rfl,rfl⟩
theorem Zrv (na : Bool) (A : Option Addr) (n c : Nat) (z : Int) (w : World) (hz : Wd w na A n c z) :
    Calls Tryz.prog 193 #[.agg #[.bool na,.slice A n c]] w fun e w'=>e = .returned (.tuple #[.int .i64 (Zaw z 0),.int .i64 0]) /\ Below w.heap.size w w':=by
 obtain ⟨r,hr⟩ : ∃ r,Zaw z 0 = r:=⟨_,rfl⟩;rw [hr];obtain ⟨W0,hW0,hB,q,sz⟩:=Zav w 27 #[.bool na,.slice A n c];replace hz:=Za (hz.below hB);obtain ⟨s0,s1,-,-⟩:=q.two;go_enter Tryz.func193,Tryz.ntmps193;go_wp2_with fail;refine (Zmd na false A none n c 0 0 z 0 W0 hz.out (Wd.zero _)).mono ?_;rintro e w1 ⟨rfl,hb1⟩;have hB1:=hB.trans (hb1.mono hB.size);rw [hr];replace hr:=Za hr;go_wp2_with fail;go_returns;exact ⟨rfl,hB1⟩
theorem Zn7 (xn : Bool) (xA : Option Addr) (xk xc : Nat) (xm : Bool) (xB : Option Addr) (xj xd : Nat) (q : Rat) (w : World) (h : Fr w xn xA xk xc xm xB xj xd q) :
    Calls Tryz.prog 126 #[.agg #[.bool xn,.slice xA xk xc,.bool xm,.slice xB xj xd]] w fun e w'=>e = .returned (.int .i64 (Zaw q.num 0)) /\ Below w.heap.size w w':=by
 obtain ⟨W0,hW0,hB0,q0,s0⟩:=Zav w 99 #[.bool xn,.slice xA xk xc,.bool xm,.slice xB xj xd];obtain ⟨a0,a1,a2,a3,-⟩:=q0.four;have hX:=h.below hB0;go_enter Tryz.func126,Tryz.ntmps126;go_wp2_with fail;(try rw [hW0]);refine (Zrv xn xA xk xc q.num W0 hX.1).mono ?_;rintro e w1 ⟨rfl,hb1⟩;go_wp2_with fail;refine (Zrx _ w1).mono ?_;rintro e w2 ⟨rfl,rfl⟩;go_wp2_with fail;go_returns;exact ⟨rfl,hB0.trans (hb1.mono hB0.size)⟩
def Zhy (a : Rat) (qs : List Rat) : Nat -> Rat
 | 0=>a
 | j + 1=>Zhy a qs j * (qs[j]?.getD 0)
theorem Zkv (an : Bool) (aA : Option Addr) (ak ac : Nat) (am : Bool) (aB : Option Addr) (aj ad : Nat) (a : Rat) (L : Option Addr) (k cap : Nat) (qs : List Rat) (w : World) (ha : Fr w an aA ak ac am aB aj ad a) (hl : FL w L k cap qs) (hk : k <= 100) (hs : ∀ j,j < k -> Sm (Zhy a qs j)) (he : ∀ j : Nat,j < k -> Sm (qs[j]?.getD 0)) :
    Calls Tryz.prog 62 #[.agg #[.bool an,.slice aA ak ac,.bool am,.slice aB aj ad],.slice L k cap] w (Zds w (Zhy a qs k)):=by
 have hcap:=hl.cap;unfold maxLen at hcap;obtain ⟨W0,hW0,hB0,⟨q0,q1⟩,s0⟩:=Zdm w 99 #[.bool an,.slice aA ak ac,.bool am,.slice aB aj ad] 99 #[.bool false,.slice none 0 0,.bool false,.slice none 0 0];obtain ⟨g0,hg0⟩ : ∃ g,w.heap.size = g:=⟨_,rfl⟩;obtain ⟨gR,hgR⟩ : ∃ g,g0 + 1 = g:=⟨_,rfl⟩;rw [hg0] at q0 q1 s0 hB0;rw [hgR] at q1;have hA:=ha.below (hg0 ▸ hB0);have hsz : Hid (W0.heap.size = gR + 1):=Za (by rw [s0];omega);have hlH:=Za hl;have hsH:=Za hs;have heH:=Za he;have hg0H:=Za hg0;clear hl hs he;go_enter Tryz.func62,Tryz.ntmps62;go_wp2_with fail;(try rw [hW0]);(try rw [hg0]);(try rw [hgR]);have hgRH:=Za hgR;clear hW0 hg0 hgR
 go_loopg [9] k (fun t iv wr=>∃ (i : Nat) (xn : Bool) (xA : Option Addr) (xk xc : Nat) (xm : Bool) (xB : Option Addr) (xj xd : Nat),i + t = k /\ iv = .int .i64 i /\ Blk wr g0 99 #[.bool xn,.slice xA xk xc,.bool xm,.slice xB xj xd] /\ Hid (Fr wr xn xA xk xc xm xB xj xd (Zhy a qs i)) /\ Kept (fun k=>k = g0) W0 wr)
 case atStart=>exact ⟨0,_,_,_,_,_,_,_,_,by omega,rfl,q0,Za hA,Kept.refl _ _⟩
 case round =>
  obtain ⟨i,xn,xA,xk,xc,xm,xB,xj,xd,hik,rfl,hb3,hX,hK⟩:=hrel;have hsz':=hsz.out;have hgR':=hgRH.out;have hbR:=hK.blk q1 (by omega);have hBwr : Below g0 w wr:=hB0.trans (hK.to_below (fun k hk=>by omega) (by omega));obtain ⟨x0,x1,x2,x3,y0,y1,y2,y3⟩:=hb3.four
  cases gk with
  | zero =>
   obtain rfl : i = k:=by omega
   have t1 : decide ((i : Int) < (i : Int)) = false:=by simp
   obtain ⟨c0,c1,c2,c3,z0,z1,z2,z3⟩:=hbR.four;obtain ⟨W5,hW5,q5,hK5,s5⟩:=Za7 xn xA xk xc xm xB xj xd hbR;go_wp2_with fail;(try rw [hW5]);obtain ⟨r0,r1,r2,r3,-⟩:=q5.four;refine bodyPost_ret (v:=.agg #[.bool xn,.slice xA xk xc,.bool xm,.slice xB xj xd]) (by simp [results,Tryz.results62,go_sem,r0,r1,r2,r3]) rfl ?_;refine ⟨?_,_,_,_,_,_,_,_,_,rfl,hX.out.keptN hK5 hbR (Zbt _ _ _ _ _ _ _ _)⟩;rw [hg0H.out];exact hBwr.trans (hK5.to_below (fun k e=>by omega) (by have:=hBwr.size;have:=hK.size;omega))
  | succ t =>
   obtain rfl : t = k - (i + 1):=by omega
   have hin : i < k:=by omega
   have t1 : decide ((i : Int) < (k : Int)) = true:=decide_eq_true (by omega)
   have bi : (i : Int) < (k : Int):=by omega
   obtain ⟨gl,o,yn,yA,yk,yc,ym,yB,yj,yd,rfl,⟨c0,c1,c2,c3⟩,hY⟩:=(hlH.out.below (hg0H.out ▸ hBwr)).at_ hin;obtain ⟨W1,hW1,hB1,p1,s1⟩:=Zav wr 99 #[.bool false,.slice none 0 0,.bool false,.slice none 0 0];obtain ⟨gn,hgn⟩ : ∃ g,wr.heap.size = g:=⟨_,rfl⟩;rw [hgn] at p1 s1;have hb31:=Zb hB1 hb3;obtain ⟨u0,u1,u2,u3,v0,v1,v2,v3⟩:=p1.four;obtain ⟨W2,hW2,p2,hK2,s2⟩:=Za7 yn yA yk yc ym yB yj yd p1;have hB2 : Below wr.heap.size wr W2:=hB1.trans (hK2.to_below (fun k e=>by omega) hB1.size);have hX2:=hX.out.below hB2;have hY2:=hY.below hB2;have hb32:=Zb hB2 hb3;obtain ⟨m0,m1,m2,m3,n0,n1,n2,n3⟩:=hb32.four;obtain ⟨o0,o1,o2,o3,-⟩:=p2.four;have e0:=Zc hB1 c0;have e1:=Zc hB1 c1;have e2:=Zc hB1 c2;have e3:=Zc hB1 c3;go_wp2_with fail;(try rw [hW2]);go_wp2_with fail;refine (Zp0 xn xm yn ym xA xB yA yB xk xc xj xd yk yc yj yd _ _ W2 hX2 hY2 (hsH.out i hin) (heH.out i hin)).mono ?_;rintro e w3 ⟨hb3',pn,pA,pk,pc,pm,pB,pj,pd,rfl,hf⟩;go_wp2_with fail;refine (Zjt pn pm pA pB pk pc pj pd _ w3 hf).mono ?_;rintro e w4 ⟨hb4,rn,rA,rk,rc,rm,rB,rj,rd,rfl,hr⟩;have hb34:=Zb hb4 (Zb hb3' hb32);obtain ⟨m0',m1',m2',m3',n0',n1',n2',n3'⟩:=hb34.four;obtain ⟨W5,hW5,q5,hK5,s5⟩:=Za7 rn rA rk rc rm rB rj rd hb34;clear x0 x1 x2 x3 y0 y1 y2 y3 m0 m1 m2 m3 n0 n1 n2 n3 o0 o1 o2 o3 u0 u1 u2 u3 v0 v1 v2 v3 e0 e1 e2 e3 c0 c1 c2 c3;go_wp2_with fail;(try rw [hW5]);have hF5:=Za (hr.keptN hK5 hb34 (Zbt _ _ _ _ _ _ _ _));have hK6 : Kept (fun k=>k = g0) W0 W5:=((hK.below hB2).below (hb3'.trans (hb4.mono hb3'.size))).trans hK5
   go_roundg (k - (i + 1))
   case measure=>omega
   case rel=>exact ⟨i + 1,_,_,_,_,_,_,_,_,by omega,by go_num,q5,hF5,hK6⟩
section
variable {t : TypeId} {w w' : World} {base : Nat} {v : Value} {es : List WE}
end
section
variable {P : Program} (w : World)
end
section
variable {t : TypeId} {w w' : World} {base : Nat} {v : Value} {xs : List Int}
end
section
variable {P : Program} (w : World)
end
end Go.Proofs.YtaioanjcjijckaaGreat
