/- Rows of fractions of the call's own. Raw fractions: -/
import Derived.Maps.AppendAt
import Derived.Deep.LoopGhost
import Derived.Test.YtpehacgjclkhmaaGreatZy24
set_option maxRecDepth 100000
set_option maxHeartbeats 8000000
set_option linter.unusedSimpArgs false
set_option linter.unusedVariables false
namespace Go.Proofs.YtpehacgjclkhmaaGreat
open Go.RowKit
structure FE where
 na : Bool
 A : Option Addr
 n : Nat
 c : Nat
 nb : Bool
 B : Option Addr
 m : Nat
 d : Nat
 q : Rat
def FE.in_ (w : World) (e : FE) : Prop:=Fr w e.na e.A e.n e.c e.nb e.B e.m e.d e.q
def Zo : List FE -> List Value
 | []=>[]
 | e :: l=>.bool e.na :: .slice e.A e.n e.c :: .bool e.nb :: .slice e.B e.m e.d :: Zo l
def Z1 (es : List FE) : Array Value:=(Zo es).toArray
theorem Zv (es : List FE) : (Zo es).length = es.length * 4:=by
 induction es with
 | nil=>rfl
 | cons e l ih=>simp only [Zo,List.length_cons,ih];omega
theorem Zfe {es : List FE} {i : Nat} {e : FE} (h : es[i]? = some e) : (Zo es)[i * 4]? = some (.bool e.na) /\ (Zo es)[i * 4 + 1]? = some (.slice e.A e.n e.c) /\ (Zo es)[i * 4 + 2]? = some (.bool e.nb) /\ (Zo es)[i * 4 + 3]? = some (.slice e.B e.m e.d):=by
 induction es generalizing i with
 | nil=>simp at h
 | cons x l ih =>
  cases i with
  | zero=>simp at h;subst h;simp [Zo]
  | succ i =>
   have:=ih (by simpa using h);rw [show (i + 1) * 4 = i * 4 + 4 by omega]
   simpa [Zo] using this
theorem Zil (es : List FE) : ∀ (i x : Nat),(Zo es)[i]? ≠ some (limb x):=by
 induction es with
 | nil=>intro i x;simp [Zo]
 | cons e l ih =>
  intro i x
  match i with
  | 0=>simp [Zo]
  | 1=>simp [Zo]
  | 2=>simp [Zo]
  | 3=>simp [Zo]
  | i + 4=>simpa [Zo] using ih i x
theorem Zgq {es : List FE} {i : Nat} {e : FE} (h : es[i]? = some e) : (Z1 es)[i * 4]? = some (.bool e.na) /\ (Z1 es)[i * 4 + 1]? = some (.slice e.A e.n e.c) /\ (Z1 es)[i * 4 + 2]? = some (.bool e.nb) /\ (Z1 es)[i * 4 + 3]? = some (.slice e.B e.m e.d):=by
 simpa [Z1] using Zfe h
theorem Zec (es : List FE) : NoLimb (Z1 es):=fun i x=>by simpa [Z1] using Zil es i x
def Zab : FE:=⟨false,none,0,0,false,none,0,0,0⟩
theorem Z6 (es fs : List FE) : Zo (es ++ fs) = Zo es ++ Zo fs:=by
 induction es with
 | nil=>rfl
 | cons e l ih=>simp only [List.cons_append,Zo,ih]
theorem Zg8 (fs : List FE) : ∀ u ∈ Zo fs,u.oneCell' = true:=by
 induction fs with
 | nil=>intro u h;simp [Zo] at h
 | cons e l ih =>
  intro u h;simp only [Zo,List.mem_cons] at h
  rcases h with rfl | rfl | rfl | rfl | h
  ·rfl
  ·rfl
  ·rfl
  ·rfl
  ·exact ih u h
theorem Zcb (k : Nat) : (Builtin.zeroCells #[.bool false,.slice none 0 0,.bool false,.slice none 0 0] k).toList = Zo (List.replicate k Zab):=by
 unfold Builtin.zeroCells
 apply List.ext_getElem?
 intro i
 by_cases h : i < k * 4
 ·have he : (List.replicate k Zab)[i / 4]? = some Zab:=by rw [List.getElem?_replicate,if_pos (by omega)]
  have hc:=Zfe he
  have h4 : i % 4 = 0 \/ i % 4 = 1 \/ i % 4 = 2 \/ i % 4 = 3:=by omega
  rcases h4 with h2 | h2 | h2 | h2
  ·rw [show i / 4 * 4 = i by omega] at hc;rw [hc.1];simp [h,h2,Zab]
  ·rw [show i / 4 * 4 + 1 = i by omega] at hc;rw [hc.2.1];simp [h,h2,Zab]
  ·rw [show i / 4 * 4 + 2 = i by omega] at hc;rw [hc.2.2.1];simp [h,h2,Zab]
  ·rw [show i / 4 * 4 + 3 = i by omega] at hc;rw [hc.2.2.2];simp [h,h2,Zab]
 ·rw [List.getElem?_eq_none (by simp;omega),List.getElem?_eq_none (by rw [Zv];simp;omega)]
def RowF (t : TypeId) (w : World) (base : Nat) (v : Value) (es : List FE) : Prop:=
 (v = .slice none 0 0 /\ es = []) \/ ∃ g sp,v = .slice (some ⟨g,0,none⟩) es.length (es.length + sp) /\ base <= g /\ es.length + sp <= maxLen /\ Blk w g t (Z1 (es ++ List.replicate sp Zab))
section
variable {t : TypeId} {w w' : World} {base : Nat} {v : Value} {es : List FE}
theorem RowF.own (h : RowF t w base v es) : w.ownsRow base t 4 v es.length (Zo es):=by
 refine ⟨Zv es,?_⟩
 rcases h with ⟨h1,rfl⟩ | ⟨g,sp,h1,h2,h3,h4⟩
 ·exact .inl ⟨h1,rfl⟩
 ·refine .inr ⟨g,_,_,h1,h2,h4,Nat.le_add_right _ _,h3,?_,?_⟩
  ·simp [Z1,Zv]
  ·simp only [Z1]
   rw [Z6,<- Zv es];exact List.take_left
theorem RowF.row_ge (h : RowF t w base v es) : ∀ k,v.ownBlock = some k -> base <= k:=fun k hk=>(h.own.lt k hk).1
theorem RowF.kept (h : RowF t w base v es) (hb : Below w.heap.size w w') : RowF t w' base v es:=by
 rcases h with h | ⟨g,sp,h1,h2,h3,h4⟩
 ·exact .inl h
 ·exact .inr ⟨g,sp,h1,h2,h3,Zc hb h4⟩
theorem RowF.keep (h : RowF t w base v es) (hg : w.grownBy w' v.ownBlock) {A : Option Addr} {n c : Nat} {l : List Nat} (hL : Lim w A n c l) : Lim w' A n c l:=by
 refine ⟨hL.1,hL.2.1,hL.2.2.1,hL.2.2.2.1,fun hn=>?_⟩;obtain ⟨b,o,e,hc⟩:=hL.2.2.2.2 hn;refine ⟨b,o,e,fun k hk=>?_⟩;rw [<- hc k hk];refine World.cell?_of_block (hg.block b (Zr (hc k hk)) (fun e'=>?_))
 rcases h with ⟨rfl,_⟩ | ⟨g,sp,rfl,_,_,h4⟩
 ·cases e'
 ·have hbg : b = g:=by simpa [Value.ownBlock] using e'
  subst hbg;have h1:=hc k hk;rw [h4.cell] at h1;exact Zec _ _ _ h1
end
section
variable {P : Program} (w : World)
theorem Zgr (base : Nat) (t ty e : TypeId) (i : TypeInfo) (ht : P.underlying t = some (.slice e)) (hi : P.info? e = some i) (hz : i.zero = some (.agg #[.bool false,.slice none 0 0,.bool false,.slice none 0 0]))
    (hs : i.size = 4) (hby : i.bytes = 64) (v : Value) (es : List FE) (hown : RowF e w base v es)
    (B : Nat) (A : Option Addr) (m c : Nat) (fs : List FE) (hr : Reads w B 4 A m (Zo fs)) (hm : fs.length = m) (h63 : es.length + m <= 1000) (hbase : base <= w.heap.size) :
    ∃ v' w',(Builtin.append_ #[t,t] ty #[v,.slice A m c]).run P w = .ok v' w' /\ RowF e w' base v' (es ++ fs) /\ w.grownBy w' v.ownBlock:=by
 rcases Nat.eq_zero_or_pos m with h0 | h0
 ·subst h0
  obtain rfl : fs = []:=List.eq_nil_of_length_eq_zero hm;rw [List.append_nil]
  rcases A with _ | ad
  ·exact ⟨v,w,Zbi w base t ty e i 4 ht hi v _ _ hown.own c,hown,World.grownBy.refl w _⟩
  ·have hf:=run_firstCells_some (P:=P) w i.size 0 ad 0 c [] (by simp) (by simp)
   rcases hown with ⟨rfl,rfl⟩ | ⟨g,sp,rfl,h2,h3,h4⟩
   ·refine ⟨.slice none 0 0,w,?_,.inl ⟨rfl,rfl⟩,World.grownBy.refl w _⟩
    simp [Builtin.append_,run_underlying ht,sizeOf,typeInfo,hi,Builtin.lenOf,Builtin.firstCells,loadCells,loadCellsFrom]
   ·refine ⟨_,w,?_,.inr ⟨g,sp,rfl,h2,h3,h4⟩,World.grownBy.refl w _⟩
    simp [Builtin.append_,run_underlying ht,sizeOf,typeInfo,hi,Builtin.lenOf,Builtin.firstCells,loadCells,loadCellsFrom,storeCells]
 ·obtain ⟨ad,rfl,_,hc⟩:=hr.2 h0
  have hl : (Zo fs).length = m * i.size:=by rw [Zv,hm,hs]
  have hle : es.length * i.size = (Zo es).length:=by rw [Zv,hs]
  rcases hown with ⟨rfl,rfl⟩ | ⟨g,sp,rfl,h2,h3,h4⟩
  ·have hrun:=run_append_nil (P:=P) w t ty e i _ ht hi hz ad m c (Zo fs) hl hc h0 (by omega) (by rw [hby];omega)
   have hge:=grownCap_ge w m 0 e;have hcm:=grownCap_le_maxLen w m 0 e (by unfold maxLen;simp only [List.length_nil] at h63;omega);refine ⟨_,_,hrun,.inr ⟨w.heap.size,grownCap w m 0 e - m,?_,hbase,?_,?_⟩,⟨rfl,rfl,rfl,by simp,fun k hk _=>Below.heap_alloc w.drew _ k hk⟩⟩
   ·rw [List.nil_append,hm,Nat.add_sub_cancel' hge]
   ·rw [List.nil_append,hm,Nat.add_sub_cancel' hge];exact hcm
   ·have:=heap_alloc_new w.drew (.cells ((Zo fs).toArray ++ Builtin.zeroCells (Value.agg #[.bool false,.slice none 0 0,.bool false,.slice none 0 0]).cells (grownCap w m 0 e - m)) e)
    unfold Blk;refine this.trans ?_
    congr 1
    have hx : (Zo fs).toArray ++ Builtin.zeroCells (Value.agg #[.bool false,.slice none 0 0,.bool false,.slice none 0 0]).cells (grownCap w m 0 e - m) = Z1 ([] ++ fs ++ List.replicate (grownCap w m 0 e - m) Zab):=by
     apply Array.toList_inj.1
     rw [Array.toList_append,show (Value.agg #[.bool false,.slice none 0 0,.bool false,.slice none 0 0]).cells = #[.bool false,.slice none 0 0,.bool false,.slice none 0 0] from rfl,Zcb]
     simp [Z1,Z6]
    rw [hx]
  ·by_cases hroom : m <= sp
   ·have hrun:=run_append_room (P:=P) w t ty e i ht hi g es.length (es.length + sp) _ h4 ad m c (Zo fs) hl hc (Zg8 fs) (by omega) (by rw [hle,Zv,Zv];simp [Z1,Zv];omega)
    refine ⟨_,_,hrun,.inr ⟨g,sp - m,?_,h2,?_,?_⟩,⟨rfl,rfl,rfl,by simp [World.setRow],fun k _ hk=>setRow_other w g k _ (fun e'=>hk (by simp [Value.ownBlock,e']))⟩⟩
    ·rw [List.length_append,hm,show es.length + m + (sp - m) = es.length + sp by omega]
    ·rw [List.length_append,hm];omega
    ·refine (setRow_heap w g _ _ e _ h4).trans ?_
     congr 2
     unfold Z1
     congr 1
     rw [hle]
     have hrep : List.replicate sp Zab = List.replicate m Zab ++ List.replicate (sp - m) Zab:=by rw [List.replicate_append_replicate];congr 1;omega
     have hlm : (Zo fs).length = (Zo (List.replicate m Zab)).length:=by rw [Zv,Zv,hm,List.length_replicate]
     simp only [Z6];rw [List.take_left,hlm,<- List.length_append,hrep,Z6,<- List.append_assoc (Zo es),List.drop_left,List.append_assoc]
   ·have holds : ∀ j u,(Zo es)[j]? = some u -> w.cell? ((⟨g,0,none⟩ : Addr).add j) = some u:=fun j u hu=>by
      rw [Zg,Nat.zero_add,h4.cell];simp only [Z1,List.getElem?_toArray,Z6];rw [List.getElem?_append_left (by rw [List.getElem?_eq_some_iff] at hu;exact hu.1)];exact hu
    have hrun:=run_append_grow (P:=P) w t ty e i _ ht hi hz ⟨g,0,none⟩ es.length (es.length + sp) (Zo es) hle.symm holds ad m c (Zo fs) hl hc (by omega) (by omega) (growslice_fits (by omega) (by rw [hby];omega));have hge:=grownCap_ge w (es.length + m) (es.length + sp) e;have hcm:=grownCap_le_maxLen w (es.length + m) (es.length + sp) e (by unfold maxLen;omega);refine ⟨_,_,hrun,.inr ⟨w.heap.size,grownCap w (es.length + m) (es.length + sp) e - (es.length + m),?_,hbase,?_,?_⟩,⟨rfl,rfl,rfl,by simp,fun k hk _=>Below.heap_alloc w.drew _ k hk⟩⟩
    ·rw [List.length_append,hm,Nat.add_sub_cancel' hge]
    ·rw [List.length_append,hm,Nat.add_sub_cancel' hge];exact hcm
    ·have:=heap_alloc_new w.drew (.cells ((Zo es).toArray ++ (Zo fs).toArray ++ Builtin.zeroCells (Value.agg #[.bool false,.slice none 0 0,.bool false,.slice none 0 0]).cells (grownCap w (es.length + m) (es.length + sp) e - (es.length + m))) e)
     unfold Blk;refine this.trans ?_
     congr 1
     have hx : (Zo es).toArray ++ (Zo fs).toArray ++ Builtin.zeroCells (Value.agg #[.bool false,.slice none 0 0,.bool false,.slice none 0 0]).cells (grownCap w (es.length + m) (es.length + sp) e - (es.length + m)) = Z1 (es ++ fs ++ List.replicate (grownCap w (es.length + m) (es.length + sp) e - (es.length + m)) Zab):=by
      apply Array.toList_inj.1
      rw [Array.toList_append,Array.toList_append,show (Value.agg #[.bool false,.slice none 0 0,.bool false,.slice none 0 0]).cells = #[.bool false,.slice none 0 0,.bool false,.slice none 0 0] from rfl,Zcb]
      simp [Z1,Z6]
     rw [hx]
end
def OwnF (t : TypeId) (w : World) (base : Nat) (v : Value) (qs : List Rat) : Prop:=∃ es,RowF t w base v es /\ (∀ e ∈ es,e.in_ w) /\ es.map FE.q = qs
theorem Fr.of_keep {w w' : World} {na : Bool} {A : Option Addr} {n c : Nat} {nb : Bool} {B : Option Addr} {m d : Nat} {r : Rat} (h : Fr w na A n c nb B m d r) (hk : ∀ (A : Option Addr) (n c : Nat) (l : List Nat),Lim w A n c l -> Lim w' A n c l) : Fr w' na A n c nb B m d r:=⟨⟨h.1.1,h.1.2.1,hk _ _ _ _ h.1.2.2⟩,⟨h.2.1,h.2.2.1,hk _ _ _ _ h.2.2.2⟩⟩
section
variable {t : TypeId} {w w' : World} {base : Nat} {v : Value} {qs : List Rat}
theorem OwnF.nil (t : TypeId) (w : World) (base : Nat) : OwnF t w base (.slice none 0 0) []:=⟨[],.inl ⟨rfl,rfl⟩,fun e h=>by simp at h,rfl⟩
theorem OwnF.kept (h : OwnF t w base v qs) (hb : Below w.heap.size w w') : OwnF t w' base v qs:=by
 obtain ⟨es,h1,h2,h3⟩:=h;exact ⟨es,h1.kept hb,fun e he=>(h2 e he).below hb,h3⟩
theorem OwnF.row_ge (h : OwnF t w base v qs) : ∀ k,v.ownBlock = some k -> base <= k:=by obtain ⟨es,h1,_⟩:=h;exact h1.row_ge
def FL (w : World) (A : Option Addr) (n c : Nat) (qs : List Rat) : Prop:=
 ∃ es : List FE,es.length = n /\ n <= c /\ c <= maxLen /\ (∀ e ∈ es,e.in_ w) /\ es.map FE.q = qs /\ (0 < n -> ∃ g o,A = some ⟨g,o,none⟩ /\ ∀ (k : Nat) (e : FE),es[k]? = some e -> w.cell? ⟨g,o + k * 4,none⟩ = some (.bool e.na) /\ w.cell? ⟨g,o + (k * 4 + 1),none⟩ = some (.slice e.A e.n e.c) /\ w.cell? ⟨g,o + (k * 4 + 2),none⟩ = some (.bool e.nb) /\ w.cell? ⟨g,o + (k * 4 + 3),none⟩ = some (.slice e.B e.m e.d))
theorem OwnF.fl (h : OwnF t w base v qs) : ∃ A c,v = .slice A qs.length c /\ FL w A qs.length c qs:=by
 obtain ⟨es,h1,h2,rfl⟩:=h
 rcases h1 with ⟨rfl,rfl⟩ | ⟨g,sp,rfl,h4,h5,h6⟩
 ·exact ⟨none,0,rfl,[],rfl,Nat.le_refl _,Nat.zero_le _,fun e h=>by simp at h,rfl,fun h=>absurd h (by simp)⟩
 ·rw [List.length_map]
  refine ⟨_,es.length + sp,rfl,es,rfl,Nat.le_add_right _ _,h5,h2,rfl,fun _=>⟨g,0,rfl,fun k e he=>?_⟩⟩;have hk : k < es.length:=(List.getElem?_eq_some_iff.1 he).1;have hc:=Zgq (es:=es ++ List.replicate sp Zab) (i:=k) (e:=e) (by rw [List.getElem?_append_left hk];exact he);simp only [Nat.zero_add,h6.cell];exact hc
theorem FL.below {A : Option Addr} {n c : Nat} (h : FL w A n c qs) (hb : Below w.heap.size w w') : FL w' A n c qs:=by
 obtain ⟨es,h1,h2,h3,h4,h5,h6⟩:=h;refine ⟨es,h1,h2,h3,fun e he=>(h4 e he).below hb,h5,fun hn=>?_⟩;obtain ⟨g,o,e1,hc⟩:=h6 hn;refine ⟨g,o,e1,fun k e he=>?_⟩;obtain ⟨a,b,c',d⟩:=hc k e he;exact ⟨(hb.cell (Zr a)).trans a,(hb.cell (Zr b)).trans b,(hb.cell (Zr c')).trans c',(hb.cell (Zr d)).trans d⟩
end
theorem Zan {w : World} {g : Nat} {t : TypeId} {na : Bool} {A : Option Addr} {n c : Nat} {nb : Bool} {B : Option Addr} {m d : Nat} (q : Rat) (h : Blk w g t #[.bool na,.slice A n c,.bool nb,.slice B m d]) : Reads w (g + 1) 4 (some ⟨g,0,none⟩) 1 (Zo [⟨na,A,n,c,nb,B,m,d,q⟩]):=
 ⟨rfl,fun _=>⟨_,rfl,Nat.lt_succ_self _,fun j u hu=>by
  rw [Zg,Nat.zero_add,h.cell]
  simpa [Zo] using hu⟩⟩
section
variable {P : Program} (w : World)
theorem Zha {o : Oper} {a : Act} {K : Act -> World -> Prop} {Q : Exit -> Act -> World -> Prop} (s x : Operand) (t : TypeId)
    (ho : o.op = .call { callee:=.builtin .append,args:=#[s,x],argTypes:=#[t,t] })
    (base : Nat) (e : TypeId) (i : TypeInfo) (ht : P.underlying t = some (.slice e)) (hi : P.info? e = some i) (hz : i.zero = some (.agg #[.bool false,.slice none 0 0,.bool false,.slice none 0 0])) (hsi : i.size = 4) (hby : i.bytes = 64)
    (v : Value) (qs : List Rat) (hs : a.eval s = v) (hown : OwnF e w base v qs)
    (B : Nat) (A : Option Addr) (m c : Nat) (fs : List FE) (hx : a.eval x = .slice A m c) (hr : Reads w B 4 A m (Zo fs)) (hm : fs.length = m) (hfs : ∀ e ∈ fs,e.in_ w)
    (h63 : qs.length + m <= 1000) (hbase : base <= w.heap.size)
    (h : ∀ v' w',OwnF e w' base v' (qs ++ fs.map FE.q) -> w.grownBy w' v.ownBlock -> (∀ (A : Option Addr) (n c : Nat) (l : List Nat),Lim w A n c l -> Lim w' A n c l) -> K (a.put o.dst v') w') : o.wp P a w K Q:=by
 obtain ⟨es,h1,h2,rfl⟩:=hown;rw [List.length_map] at h63;obtain ⟨v',w',hrun,h3,h4⟩:=Zgr (P:=P) w base t o.type e i ht hi hz hsi hby v es h1 B A m c fs hr hm h63 hbase;unfold Oper.wp execOp;simp only [ho,resolve,invoke,builtin,Sem.run_bind,Sem.run_pure,Result.andThen_ok,List.map_toArray,List.map_cons,List.map_nil,hs,hx,hrun]
 have hk : ∀ (A : Option Addr) (n c : Nat) (l : List Nat),Lim w A n c l -> Lim w' A n c l:=fun _ _ _ _ hL=>h1.keep h4 hL
 refine h v' w' ⟨es ++ fs,h3,fun e he=>?_,by rw [List.map_append]⟩ h4 hk
 rcases List.mem_append.1 he with he | he
 ·exact (h2 e he).of_keep hk
 ·exact (hfs e he).of_keep hk
theorem Zar {ops : Array Oper} {rest : List Oper} {o : Oper} {a : Act} {Q : Exit -> Act -> World -> Prop} (hgd : o.guard = none) (s x : Operand) (t : TypeId)
    (ho : o.op = .call { callee:=.builtin .append,args:=#[s,x],argTypes:=#[t,t] })
    (base : Nat) (e : TypeId) (i : TypeInfo) (ht : P.underlying t = some (.slice e)) (hi : P.info? e = some i) (hz : i.zero = some (.agg #[.bool false,.slice none 0 0,.bool false,.slice none 0 0])) (hsi : i.size = 4) (hby : i.bytes = 64)
    (v : Value) (qs : List Rat) (hs : a.eval s = v) (hown : OwnF e w base v qs)
    (B : Nat) (A : Option Addr) (m c : Nat) (fs : List FE) (hx : a.eval x = .slice A m c) (hr : Reads w B 4 A m (Zo fs)) (hm : fs.length = m) (hfs : ∀ e ∈ fs,e.in_ w)
    (h63 : qs.length + m <= 1000) (hbase : base <= w.heap.size)
    (h : ∀ v' w',OwnF e w' base v' (qs ++ fs.map FE.q) -> w.grownBy w' v.ownBlock -> (∀ (A : Option Addr) (n c : Nat) (l : List Nat),Lim w A n c l -> Lim w' A n c l) -> wpList P ops Q rest (a.put o.dst v') w') : wpList P ops Q (o :: rest) a w:=
 wpList_plain hgd fun _ hK=>Zha w s x t ho base e i ht hi hz hsi hby v qs hs hown B A m c fs hx hr hm hfs h63 hbase fun v' w' h2 h3 h4=>hK _ _ (h v' w' h2 h3 h4)
end
attribute [local go_sem] Zg
def okF (na : Bool) (la : List Nat) (nb : Bool) (lb : List Nat) : Bool:=okW na la && okW nb lb && !nb && decide (0 < lb.length) && decide (Nat.gcd (val la) (val lb) = 1)
def qOf (na : Bool) (la lb : List Nat) : Rat:=Rat.divInt (sg na (val la)) (val lb : Nat)
theorem Zmi {w : World} {na nb : Bool} {A B : Option Addr} {n c m d : Nat} {la lb : List Nat} (ha : Lim w A n c la) (hb : Lim w B m d lb) (hk : okF na la nb lb = true) : Fr w na A n c nb B m d (qOf na la lb):=by
 simp only [okF,Bool.and_eq_true,Bool.not_eq_true',decide_eq_true_eq] at hk;obtain ⟨⟨⟨⟨k1,k2⟩,rfl⟩,k4⟩,k5⟩:=hk;have h2:=(Zgt hb.lt).1 k2;have e2 : (sg false (val lb)).natAbs = val lb:=Zw _ _;rw [e2] at h2
 have hp : 0 < val lb:=by
  rw [h2.2.2] at k4;exact length_digits_pos.1 k4
 have hl : Low (sg na (val la)) (val lb : Nat):=⟨by omega,by rw [Zw,Int.natAbs_natCast];exact k5⟩;obtain ⟨r1,r2⟩:=rat_low hl;have w1:=Wd.of_ok ha k1;have w2:=Wd.of_ok hb k2;have e3 : sg false (val lb) = (val lb : Nat):=rfl;rw [e3] at w2;refine ⟨?_,?_⟩
 ·unfold qOf;rw [r1];exact w1
 ·unfold qOf;rw [r2];exact w2
theorem Zlh (na nb : Bool) (A B : Option Addr) (n c m d : Nat) (la lb : List Nat) (w : World) (ha : Lim w A n c la) (hb : Lim w B m d lb) (hbad : (okW na la && okW nb lb) = false) :
    Calls Tryz.prog 92 #[.agg #[.bool na,.slice A n c,.bool nb,.slice B m d]] w fun e w'=>e = .returned (.int .i64 8) /\ Below w.heap.size w w':=by
 have hmx : Tryz.prog.follows .mixedOrders = true:=by kernel_rfl
 obtain ⟨W0,hW0,hB0,q0,s0⟩:=Zb3 w 29 #[.bool na,.slice A n c,.bool nb,.slice B m d];have hA:=Za (ha.below hB0);have hD:=Za (hb.below hB0);clear ha hb;obtain ⟨a0,a1,a2,a3,-⟩:=q0.four;replace q0:=Za q0;go_enter Tryz.func92,Tryz.ntmps92;go_wp2_with fail;refine (Gcd_bad na nb A B n c m d la lb W0 hA.out hD.out hbad).mono ?_;rintro e w1 ⟨rfl,hb1⟩;have hB1 : Below w.heap.size w w1:=hB0.trans (hb1.mono hB0.size);clear hW0 a0 a1 a2 a3 hb1;obtain ⟨W4,hW4,hB4,q4,kW,kB,s4⟩:=Zak 27 #[.bool false,.slice none 0 0] hB1 hB1.size;obtain ⟨g0,g1,f0,f1⟩:=q4.two;go_wp2_with fail;refine Zaa [] (fun wx=>True) hmx trivial (fun _=>?_);refine Ze (i:=0) rfl (by kernel_rfl) (fun K hK=>?_);go_simp;refine hK.out _ _ (fun _=>trivial) ?_;clear hK K
 try simp only [Act.put,putL_a,putL_z,putL_s]
 refine Ze (i:=1) rfl (by kernel_rfl) (fun K hK=>?_);go_simp;refine hK.out _ _ (fun _=>trivial) ?_;clear hK K
 try simp only [Act.put,putL_a,putL_z,putL_s]
 refine Ze (i:=2) rfl (by kernel_rfl) (fun K hK=>?_);go_simp;refine hK.out _ _ (fun _=>trivial) ?_;clear hK K
 try simp only [Act.put,putL_a,putL_z,putL_s]
 refine Ze (i:=3) rfl (by kernel_rfl) (fun K hK=>?_);go_simp;refine hK.out _ _ (fun _=>trivial) ?_;clear hK K
 try simp only [Act.put,putL_a,putL_z,putL_s]
 refine Ze (i:=4) rfl (by kernel_rfl) (fun K hK=>?_);go_simp;refine hK.out _ _ (fun _=>trivial) ?_;clear hK K
 try simp only [Act.put,putL_a,putL_z,putL_s]
 refine Ze (i:=5) rfl (by kernel_rfl) (fun K hK=>?_);go_simp;refine hK.out _ _ (fun _=>trivial) ?_;clear hK K
 try simp only [Act.put,putL_a,putL_z,putL_s]
 refine Ze (i:=6) rfl (by kernel_rfl) (fun K hK=>?_);go_simp;refine hK.out _ _ (fun _=>trivial) ?_;clear hK K
 try simp only [Act.put,putL_a,putL_z,putL_s]
 refine Ze (i:=7) rfl (by kernel_rfl) (fun K hK=>?_);go_simp;refine hK.out _ _ (fun _=>trivial) ?_;clear hK K
 try simp only [Act.put,putL_a,putL_z,putL_s]
 refine Ze (i:=8) rfl (by kernel_rfl) (fun K hK=>?_);go_simp;refine hK.out _ _ (fun _=>trivial) ?_;clear hK K
 try simp only [Act.put,putL_a,putL_z,putL_s]
 refine Ze (i:=9) rfl (by kernel_rfl) (fun K hK=>?_);go_simp;refine hK.out _ _ (fun _=>trivial) ?_;clear hK K
 try simp only [Act.put,putL_a,putL_z,putL_s]
 refine Ze (i:=10) rfl (by kernel_rfl) (fun K hK=>?_);go_simp;refine hK.out _ _ (fun _=>trivial) ?_;clear hK K
 try simp only [Act.put,putL_a,putL_z,putL_s]
 refine Ze (i:=11) rfl (by kernel_rfl) (fun K hK=>?_);go_simp;refine hK.out _ _ (fun _=>trivial) ?_;clear hK K
 try simp only [Act.put,putL_a,putL_z,putL_s]
 refine Ze (i:=12) rfl (by kernel_rfl) (fun K hK=>?_);go_simp;refine hK.out _ _ (fun _=>trivial) ?_;clear hK K
 try simp only [Act.put,putL_a,putL_z,putL_s]
 refine Zd (i:=13) (v:=undef) rfl (by kernel_rfl) (by kernel_rfl) (by kernel_rfl) (by kernel_rfl) (by kernel_rfl) (Or.inr ⟨by rfl,rfl⟩) trivial ?_
 try simp only [Act.put,putL_a,putL_z,putL_s]
 refine Ze (i:=14) rfl (by kernel_rfl) (fun K hK=>?_);go_simp;refine hK.out _ _ (fun _=>trivial) ?_;clear hK K
 try simp only [Act.put,putL_a,putL_z,putL_s]
 refine Ze (i:=15) rfl (by kernel_rfl) (fun K hK=>?_);go_simp;refine hK.out _ _ (fun _=>trivial) ?_;clear hK K
 try simp only [Act.put,putL_a,putL_z,putL_s]
 refine Ze (i:=16) rfl (by kernel_rfl) (fun K hK=>?_);go_simp;refine hK.out _ _ (fun _=>trivial) ?_;clear hK K
 try simp only [Act.put,putL_a,putL_z,putL_s]
 refine Ze (i:=17) rfl (by kernel_rfl) (fun K hK=>?_);go_simp;refine hK.out _ _ (fun _=>trivial) ?_;clear hK K
 try simp only [Act.put,putL_a,putL_z,putL_s]
 refine Zl (by kernel_rfl) ?_ _;refine OnlyNormal.normal ?_;go_wp2_with fail;go_ret;exact ⟨rfl,Zi ((hB4.setCell (p:=⟨w1.heap.size,0,none⟩) hB1.size (.bool false)).setCell (p:=⟨w1.heap.size,1,none⟩) hB1.size (.slice none 0 0)) 1⟩
theorem Zky (na : Bool) (A B : Option Addr) (n c m d : Nat) (za zb : Int) (w : World) (ha : Wd w na A n c za) (hb : Wd w true B m d zb) :
    Calls Tryz.prog 92 #[.agg #[.bool na,.slice A n c,.bool true,.slice B m d]] w fun e w'=>e = .returned (.int .i64 8) /\ Below w.heap.size w w':=by
 have hmx : Tryz.prog.follows .mixedOrders = true:=by kernel_rfl
 have hgs : Nat.gcd za.natAbs zb.natAbs < pw 4096:=Zcx ha.small hb.small;obtain ⟨W0,hW0,hB0,q0,s0⟩:=Zb3 w 29 #[.bool na,.slice A n c,.bool true,.slice B m d];have hA:=Za (ha.below hB0);have hD:=Za (hb.below hB0);clear ha hb;obtain ⟨a0,a1,a2,a3,-⟩:=q0.four;go_enter Tryz.func92,Tryz.ntmps92;go_wp2_with fail;refine (Zhu na true A B n c m d za zb W0 hA.out hD.out).mono ?_;rintro e w1 ⟨hb1,ng,Ag,kg,cg,code,rfl,hR⟩
 rcases hR with ⟨-,rfl,hgw⟩ | ⟨hbig,-⟩
 case inr=>exact absurd hbig (by omega)
 have hB1 : Below w.heap.size w w1:=hB0.trans (hb1.mono hB0.size);replace q0:=Zc hb1 q0;clear hW0 a0 a1 a2 a3 hb1;obtain ⟨W4,hW4,hB4,q4,kW,kB,s4⟩:=Zak 27 #[.bool ng,.slice Ag kg cg] hB1 hB1.size;replace q0:=kB _ _ _ q0;obtain ⟨g0,g1,f0,f1⟩:=q4.two;obtain ⟨a0,a1,a2,a3,-⟩:=q0.four;go_wp2_with fail;refine Zaa [] (fun wx=>wx.cell? ⟨w.heap.size,2,none⟩ = some (.bool true)) hmx a2 (fun _=>?_);refine Ze (i:=0) rfl (by kernel_rfl) (fun K hK=>?_);go_simp;refine hK.out _ _ (fun _=>a2) ?_;clear hK K
 try simp only [Act.put,putL_a,putL_z,putL_s]
 refine Ze (i:=1) rfl (by kernel_rfl) (fun K hK=>?_);go_simp;refine hK.out _ _ (fun _=>a2) ?_;clear hK K
 try simp only [Act.put,putL_a,putL_z,putL_s]
 refine Ze (i:=2) rfl (by kernel_rfl) (fun K hK=>?_);go_simp;refine hK.out _ _ (fun _=>a2) ?_;clear hK K
 try simp only [Act.put,putL_a,putL_z,putL_s]
 refine Ze (i:=3) rfl (by kernel_rfl) (fun K hK=>?_);go_simp;refine hK.out _ _ (fun _=>a2) ?_;clear hK K
 try simp only [Act.put,putL_a,putL_z,putL_s]
 refine Ze (i:=4) rfl (by kernel_rfl) (fun K hK=>?_);go_simp;refine hK.out _ _ (fun _=>a2) ?_;clear hK K
 try simp only [Act.put,putL_a,putL_z,putL_s]
 refine Ze (i:=5) rfl (by kernel_rfl) (fun K hK=>?_);go_simp;refine hK.out _ _ (fun _=>a2) ?_;clear hK K
 try simp only [Act.put,putL_a,putL_z,putL_s]
 refine Ze (i:=6) rfl (by kernel_rfl) (fun K hK=>?_);go_simp;refine hK.out _ _ (fun _=>a2) ?_;clear hK K
 try simp only [Act.put,putL_a,putL_z,putL_s]
 refine Ze (i:=7) rfl (by kernel_rfl) (fun K hK=>?_);go_simp;refine hK.out _ _ (fun _=>a2) ?_;clear hK K
 try simp only [Act.put,putL_a,putL_z,putL_s]
 refine Ze (i:=8) rfl (by kernel_rfl) (fun K hK=>?_);go_simp;refine hK.out _ _ (fun _=>a2) ?_;clear hK K
 try simp only [Act.put,putL_a,putL_z,putL_s]
 refine Ze (i:=9) rfl (by kernel_rfl) (fun K hK=>?_);go_simp;refine hK.out _ _ (fun _=>a2) ?_;clear hK K
 try simp only [Act.put,putL_a,putL_z,putL_s]
 refine Ze (i:=10) rfl (by kernel_rfl) (fun K hK=>?_);go_simp;refine hK.out _ _ (fun _=>a2) ?_;clear hK K
 try simp only [Act.put,putL_a,putL_z,putL_s]
 refine Ze (i:=11) rfl (by kernel_rfl) (fun K hK=>?_);go_simp;refine hK.out _ _ (fun _=>a2) ?_;clear hK K
 try simp only [Act.put,putL_a,putL_z,putL_s]
 refine Ze (i:=12) rfl (by kernel_rfl) (fun K hK=>?_);go_simp;refine hK.out _ _ (fun _=>a2) ?_;clear hK K
 try simp only [Act.put,putL_a,putL_z,putL_s]
 refine Zd (i:=13) (v:=undef) rfl (by kernel_rfl) (by kernel_rfl) (by kernel_rfl) (by kernel_rfl) (by kernel_rfl) (Or.inr ⟨by rfl,rfl⟩) a2 ?_
 try simp only [Act.put,putL_a,putL_z,putL_s]
 refine Ze (i:=14) rfl (by kernel_rfl) (fun K hK=>?_);go_simp;refine hK.out _ _ (fun _=>a2) ?_;clear hK K
 try simp only [Act.put,putL_a,putL_z,putL_s]
 refine Ze (i:=15) rfl (by kernel_rfl) (fun K hK=>?_);go_simp;refine hK.out _ _ (fun _=>a2) ?_;clear hK K
 try simp only [Act.put,putL_a,putL_z,putL_s]
 refine Ze (i:=16) rfl (by kernel_rfl) (fun K hK=>?_);go_simp;refine hK.out _ _ (fun _=>a2) ?_;clear hK K
 try simp only [Act.put,putL_a,putL_z,putL_s]
 refine Ze (i:=17) rfl (by kernel_rfl) (fun K hK=>?_);go_simp;refine hK.out _ _ (fun _=>a2) ?_;clear hK K
 try simp only [Act.put,putL_a,putL_z,putL_s]
 refine Zl (by kernel_rfl) ?_ _;refine OnlyNormal.normal ?_;go_wp2_with fail;go_ret;exact ⟨rfl,Zi hB4 1⟩
theorem Zkv (na : Bool) (A B : Option Addr) (n c d : Nat) (za : Int) (w : World) (ha : Wd w na A n c za) (hb : Wd w false B 0 d 0) :
    Calls Tryz.prog 92 #[.agg #[.bool na,.slice A n c,.bool false,.slice B 0 d]] w fun e w'=>e = .returned (.int .i64 8) /\ Below w.heap.size w w':=by
 have hmx : Tryz.prog.follows .mixedOrders = true:=by kernel_rfl
 have hgs : Nat.gcd za.natAbs (Int.natAbs 0) < pw 4096:=Zcx ha.small hb.small;obtain ⟨W0,hW0,hB0,q0,s0⟩:=Zb3 w 29 #[.bool na,.slice A n c,.bool false,.slice B 0 d];have hA:=Za (ha.below hB0);have hD:=Za (hb.below hB0);clear ha hb;obtain ⟨a0,a1,a2,a3,-⟩:=q0.four;go_enter Tryz.func92,Tryz.ntmps92;go_wp2_with fail;refine (Zhu na false A B n c 0 d za 0 W0 hA.out hD.out).mono ?_;rintro e w1 ⟨hb1,ng,Ag,kg,cg,code,rfl,hR⟩
 rcases hR with ⟨-,rfl,hgw⟩ | ⟨hbig,-⟩
 case inr=>exact absurd hbig (by omega)
 have hB1 : Below w.heap.size w w1:=hB0.trans (hb1.mono hB0.size);replace q0:=Zc hb1 q0;clear hW0 a0 a1 a2 a3 hb1;obtain ⟨W4,hW4,hB4,q4,kW,kB,s4⟩:=Zak 27 #[.bool ng,.slice Ag kg cg] hB1 hB1.size;replace q0:=kB _ _ _ q0;obtain ⟨g0,g1,f0,f1⟩:=q4.two;obtain ⟨a0,a1,a2,a3,-⟩:=q0.four;go_wp2_with fail;refine Zaa [] (fun wx=>wx.cell? ⟨w.heap.size,2,none⟩ = some (.bool false) /\ wx.cell? ⟨w.heap.size,3,none⟩ = some (.slice B 0 d)) hmx ⟨a2,a3⟩ (fun _=>?_);refine Ze (i:=0) rfl (by kernel_rfl) (fun K hK=>?_);go_simp;refine hK.out _ _ (fun _=>⟨a2,a3⟩) ?_;clear hK K
 try simp only [Act.put,putL_a,putL_z,putL_s]
 refine Ze (i:=1) rfl (by kernel_rfl) (fun K hK=>?_);go_simp;refine hK.out _ _ (fun _=>⟨a2,a3⟩) ?_;clear hK K
 try simp only [Act.put,putL_a,putL_z,putL_s]
 refine Ze (i:=2) rfl (by kernel_rfl) (fun K hK=>?_);go_simp;refine hK.out _ _ (fun _=>⟨a2,a3⟩) ?_;clear hK K
 try simp only [Act.put,putL_a,putL_z,putL_s]
 refine Ze (i:=3) rfl (by kernel_rfl) (fun K hK=>?_);go_simp;refine hK.out _ _ (fun _=>⟨a2,a3⟩) ?_;clear hK K
 try simp only [Act.put,putL_a,putL_z,putL_s]
 refine Ze (i:=4) rfl (by kernel_rfl) (fun K hK=>?_);go_simp;refine hK.out _ _ (fun _=>⟨a2,a3⟩) ?_;clear hK K
 try simp only [Act.put,putL_a,putL_z,putL_s]
 refine Ze (i:=5) rfl (by kernel_rfl) (fun K hK=>?_);go_simp;refine hK.out _ _ (fun _=>⟨a2,a3⟩) ?_;clear hK K
 try simp only [Act.put,putL_a,putL_z,putL_s]
 refine Ze (i:=6) rfl (by kernel_rfl) (fun K hK=>?_);go_simp;refine hK.out _ _ (fun _=>⟨a2,a3⟩) ?_;clear hK K
 try simp only [Act.put,putL_a,putL_z,putL_s]
 refine Ze (i:=7) rfl (by kernel_rfl) (fun K hK=>?_);go_simp;refine hK.out _ _ (fun _=>⟨a2,a3⟩) ?_;clear hK K
 try simp only [Act.put,putL_a,putL_z,putL_s]
 refine Ze (i:=8) rfl (by kernel_rfl) (fun K hK=>?_);go_simp;refine hK.out _ _ (fun _=>⟨a2,a3⟩) ?_;clear hK K
 try simp only [Act.put,putL_a,putL_z,putL_s]
 refine Ze (i:=9) rfl (by kernel_rfl) (fun K hK=>?_);go_simp;refine hK.out _ _ (fun _=>⟨a2,a3⟩) ?_;clear hK K
 try simp only [Act.put,putL_a,putL_z,putL_s]
 refine Ze (i:=10) rfl (by kernel_rfl) (fun K hK=>?_);go_simp;refine (Zdm _ _ _ _ _ (by omega) true rfl).mono ?_;rintro e w3 ⟨rfl,hb3⟩;have hb3':=Zq hb3;have k2:=Zb hb3' a2;have k3:=Zb hb3' a3;refine hK.out _ _ (fun _=>⟨k2,k3⟩) ?_;clear hK K
 try simp only [Act.put,putL_a,putL_z,putL_s]
 refine Ze (i:=11) rfl (by kernel_rfl) (fun K hK=>?_);go_simp;refine hK.out _ _ (fun _=>⟨k2,k3⟩) ?_;clear hK K
 try simp only [Act.put,putL_a,putL_z,putL_s]
 refine Ze (i:=12) rfl (by kernel_rfl) (fun K hK=>?_);go_simp;refine hK.out _ _ (fun _=>⟨k2,k3⟩) ?_;clear hK K
 try simp only [Act.put,putL_a,putL_z,putL_s]
 refine Zd (i:=13) (v:=undef) rfl (by kernel_rfl) (by kernel_rfl) (by kernel_rfl) (by kernel_rfl) (by kernel_rfl) (Or.inr ⟨by rfl,rfl⟩) ⟨k2,k3⟩ ?_
 try simp only [Act.put,putL_a,putL_z,putL_s]
 refine Ze (i:=14) rfl (by kernel_rfl) (fun K hK=>?_);go_simp;refine hK.out _ _ (fun _=>⟨k2,k3⟩) ?_;clear hK K
 try simp only [Act.put,putL_a,putL_z,putL_s]
 refine Ze (i:=15) rfl (by kernel_rfl) (fun K hK=>?_);go_simp;refine hK.out _ _ (fun _=>⟨k2,k3⟩) ?_;clear hK K
 try simp only [Act.put,putL_a,putL_z,putL_s]
 refine Ze (i:=16) rfl (by kernel_rfl) (fun K hK=>?_);go_simp;refine hK.out _ _ (fun _=>⟨k2,k3⟩) ?_;clear hK K
 try simp only [Act.put,putL_a,putL_z,putL_s]
 refine Ze (i:=17) rfl (by kernel_rfl) (fun K hK=>?_);go_simp;refine hK.out _ _ (fun _=>⟨k2,k3⟩) ?_;clear hK K
 try simp only [Act.put,putL_a,putL_z,putL_s]
 refine Zl (by kernel_rfl) ?_ _;refine OnlyNormal.normal ?_;go_wp2_with fail;go_ret;exact ⟨rfl,hB4.trans (hb3'.mono hB4.size)⟩
theorem Zl5 (na nb : Bool) (A B : Option Addr) (n c m d : Nat) (la lb : List Nat) (w : World) (ha : Lim w A n c la) (hb : Lim w B m d lb) (x : Bool) (hx : okF na la nb lb = x) :
    Calls Tryz.prog 92 #[.agg #[.bool na,.slice A n c,.bool nb,.slice B m d]] w fun e w'=>e = .returned (.int .i64 (Zf2 x)) /\ Below w.heap.size w w':=by
 cases x
 ·simp only [okF,Bool.and_eq_false_iff,Bool.not_eq_false',decide_eq_false_iff_not] at hx
  by_cases h1 : (okW na la && okW nb lb) = true
  ·have h1':=h1
   rw [Bool.and_eq_true] at h1;have hA:=Wd.of_ok ha h1.1;have hD:=Wd.of_ok hb h1.2
   cases nb
   ·by_cases hz : 0 < lb.length
    ·have e3 : sg false (val lb) = (val lb : Nat):=rfl
     rw [e3] at hD;have h2:=(Zgt hb.lt).1 h1.2;have e2 : (sg false (val lb)).natAbs = val lb:=Zw _ _;rw [e2] at h2
     have hp : 0 < val lb:=by
      rw [h2.2.2] at hz;exact length_digits_pos.1 hz
     refine Zg1 na A B n c m d _ _ w hA hD (by omega) false ?_;rw [Zw,Int.natAbs_natCast]
     rcases hx with (((hx | hx) | hx) | hx) | hx
     ·rw [h1.1] at hx;cases hx
     ·rw [h1.2] at hx;cases hx
     ·cases hx
     ·omega
     ·simp;omega
    ·have hl0 : lb = []:=List.eq_nil_of_length_eq_zero (by omega)
     subst hl0;have hm : m = 0:=hb.len.symm;subst hm;exact Zkv na A B n c d _ w hA hD
   ·exact Zky na A B n c m d _ _ w hA hD
  ·exact Zlh na nb A B n c m d la lb w ha hb (by simpa using h1)
 ·exact Zbr na nb A B n c m d _ w (Zmi ha hb hx)
structure FX where
 na : Bool
 A : Option Addr
 n : Nat
 c : Nat
 la : List Nat
 nb : Bool
 B : Option Addr
 m : Nat
 d : Nat
 lb : List Nat
def FX.in_ (w : World) (e : FX) : Prop:=Lim w e.A e.n e.c e.la /\ Lim w e.B e.m e.d e.lb
def FX.ok (e : FX) : Bool:=okF e.na e.la e.nb e.lb
def FX.q (e : FX) : Rat:=qOf e.na e.la e.lb
def FX.few (e : FX) : Nat:=max e.n e.m
def At4 (w : World) (g o : Nat) (na : Bool) (A : Option Addr) (n c : Nat) (nb : Bool) (B : Option Addr) (m d : Nat) : Prop:=
 w.cell? ⟨g,o,none⟩ = some (.bool na) /\ w.cell? ⟨g,o + 1,none⟩ = some (.slice A n c) /\ w.cell? ⟨g,o + 2,none⟩ = some (.bool nb) /\ w.cell? ⟨g,o + 3,none⟩ = some (.slice B m d)
theorem At4.below {w w' : World} {g o : Nat} {na : Bool} {A : Option Addr} {n c : Nat} {nb : Bool} {B : Option Addr} {m d : Nat} (h : At4 w g o na A n c nb B m d) (hb : Below w.heap.size w w') : At4 w' g o na A n c nb B m d:=
 ⟨Zb hb h.1,Zb hb h.2.1,Zb hb h.2.2.1,Zb hb h.2.2.2⟩
def FXL (w : World) (A : Option Addr) (n c : Nat) (es : List FX) : Prop:=
 es.length = n /\ n <= c /\ c <= maxLen /\ (∀ e ∈ es,e.in_ w) /\ (0 < n -> ∃ g o,A = some ⟨g,o,none⟩ /\ ∀ (k : Nat) (e : FX),es[k]? = some e -> At4 w g (o + k * 4) e.na e.A e.n e.c e.nb e.B e.m e.d)
section
variable {w w' : World} {A : Option Addr} {n c : Nat} {es : List FX}
theorem FX.in_below {e : FX} (h : e.in_ w) (hb : Below w.heap.size w w') : e.in_ w':=⟨h.1.below hb,h.2.below hb⟩
theorem FXL.below (h : FXL w A n c es) (hb : Below w.heap.size w w') : FXL w' A n c es:=by
 obtain ⟨h1,h2,h3,h4,h5⟩:=h;refine ⟨h1,h2,h3,fun e he=>FX.in_below (h4 e he) hb,fun hn=>?_⟩;obtain ⟨g,o,e1,hc⟩:=h5 hn;exact ⟨g,o,e1,fun k e he=>(hc k e he).below hb⟩
theorem FXL.at_ (h : FXL w A n c es) {k : Nat} (hk : k < n) : ∃ g o e,A = some ⟨g,o,none⟩ /\ es[k]? = some e /\ At4 w g (o + k * 4) e.na e.A e.n e.c e.nb e.B e.m e.d /\ Lim w e.A e.n e.c e.la /\ Lim w e.B e.m e.d e.lb:=by
 obtain ⟨h1,-,-,h4,h5⟩:=h;obtain ⟨g,o,e1,hc⟩:=h5 (by omega);have he:=List.getElem?_eq_getElem (l:=es) (i:=k) (by omega);have hi:=h4 es[k] (List.getElem_mem _);exact ⟨g,o,es[k],e1,he,hc k _ he,hi.1,hi.2⟩
theorem FXL.fl (h : FXL w A n c es) (hk : ∀ e ∈ es,e.ok = true) : FL w A n c (es.map FX.q):=by
 obtain ⟨h1,h2,h3,h4,h5⟩:=h;refine ⟨es.map fun e=>⟨e.na,e.A,e.n,e.c,e.nb,e.B,e.m,e.d,e.q⟩,by simp [h1],h2,h3,fun e he=>?_,by rw [List.map_map];rfl,fun hn=>?_⟩
 ·obtain ⟨x,hx,rfl⟩:=List.mem_map.1 he
  exact Zmi (h4 x hx).1 (h4 x hx).2 (hk x hx)
 ·obtain ⟨g,o,e1,hc⟩:=h5 hn
  refine ⟨g,o,e1,fun k e he=>?_⟩;rw [List.getElem?_map] at he;obtain ⟨x,hx,rfl⟩:=Option.map_eq_some_iff.1 he;exact hc k x hx
end
structure RX where
 A : Option Addr
 n : Nat
 c : Nat
 es : List FX
def MXL (w : World) (A : Option Addr) (n c : Nat) (rs : List RX) : Prop:=
 rs.length = n /\ n <= c /\ c <= maxLen /\ (∀ r ∈ rs,FXL w r.A r.n r.c r.es) /\ (0 < n -> ∃ g o,A = some ⟨g,o,none⟩ /\ ∀ (k : Nat) (r : RX),rs[k]? = some r -> w.cell? ⟨g,o + k,none⟩ = some (.slice r.A r.n r.c))
def MFL (w : World) (A : Option Addr) (n c : Nat) (Q : List (List Rat)) : Prop:=
 Q.length = n /\ n <= c /\ c <= maxLen /\ (0 < n -> ∃ g o,A = some ⟨g,o,none⟩ /\ ∀ (k : Nat) (q : List Rat),Q[k]? = some q -> ∃ A' n' c',w.cell? ⟨g,o + k,none⟩ = some (.slice A' n' c') /\ FL w A' n' c' q)
section
variable {w w' : World} {A : Option Addr} {n c : Nat} {rs : List RX} {Q : List (List Rat)} {qs : List Rat}
theorem MXL.below (h : MXL w A n c rs) (hb : Below w.heap.size w w') : MXL w' A n c rs:=by
 obtain ⟨h1,h2,h3,h4,h5⟩:=h;refine ⟨h1,h2,h3,fun r hr=>(h4 r hr).below hb,fun hn=>?_⟩;obtain ⟨g,o,e1,hc⟩:=h5 hn;exact ⟨g,o,e1,fun k r hr=>Zb hb (hc k r hr)⟩
theorem MXL.at_ (h : MXL w A n c rs) {k : Nat} (hk : k < n) : ∃ g o r,A = some ⟨g,o,none⟩ /\ rs[k]? = some r /\ w.cell? ⟨g,o + k,none⟩ = some (.slice r.A r.n r.c) /\ FXL w r.A r.n r.c r.es:=by
 obtain ⟨h1,-,-,h4,h5⟩:=h;obtain ⟨g,o,e1,hc⟩:=h5 (by omega);have he:=List.getElem?_eq_getElem (l:=rs) (i:=k) (by omega);exact ⟨g,o,rs[k],e1,he,hc k _ he,h4 rs[k] (List.getElem_mem _)⟩
theorem MXL.mfl (h : MXL w A n c rs) (hk : ∀ r ∈ rs,∀ e ∈ r.es,e.ok = true) : MFL w A n c (rs.map fun r=>r.es.map FX.q):=by
 obtain ⟨h1,h2,h3,h4,h5⟩:=h;refine ⟨by simp [h1],h2,h3,fun hn=>?_⟩;obtain ⟨g,o,e1,hc⟩:=h5 hn;refine ⟨g,o,e1,fun k q hq=>?_⟩;rw [List.getElem?_map] at hq;obtain ⟨r,hr,rfl⟩:=Option.map_eq_some_iff.1 hq;exact ⟨r.A,r.n,r.c,hc k r hr,(h4 r (List.mem_of_getElem? hr)).fl (hk r (List.mem_of_getElem? hr))⟩
theorem MFL.below (h : MFL w A n c Q) (hb : Below w.heap.size w w') : MFL w' A n c Q:=by
 obtain ⟨h1,h2,h3,h5⟩:=h;refine ⟨h1,h2,h3,fun hn=>?_⟩;obtain ⟨g,o,e1,hc⟩:=h5 hn;refine ⟨g,o,e1,fun k q hq=>?_⟩;obtain ⟨A',n',c',h6,h7⟩:=hc k q hq;exact ⟨A',n',c',Zb hb h6,h7.below hb⟩
theorem MFL.at_ (h : MFL w A n c Q) {k : Nat} (hk : k < n) : ∃ g o A' n' c',A = some ⟨g,o,none⟩ /\ w.cell? ⟨g,o + k,none⟩ = some (.slice A' n' c') /\ FL w A' n' c' (Q[k]?.getD []):=by
 obtain ⟨h1,-,-,h5⟩:=h;obtain ⟨g,o,e1,hc⟩:=h5 (by omega);have he:=List.getElem?_eq_getElem (l:=Q) (i:=k) (by omega);obtain ⟨A',n',c',h6,h7⟩:=hc k _ he;rw [he];exact ⟨g,o,A',n',c',e1,h6,h7⟩
theorem FL.len (h : FL w A n c qs) : qs.length = n:=by obtain ⟨es,h1,-,-,-,h5,-⟩:=h;rw [<- h5,List.length_map,h1]
theorem FL.cap (h : FL w A n c qs) : n <= c /\ c <= maxLen:=by obtain ⟨es,h1,h2,h3,-⟩:=h;exact ⟨h2,h3⟩
theorem FL.at_ (h : FL w A n c qs) {k : Nat} (hk : k < n) : ∃ g o na A1 n1 c1 nb B m d,A = some ⟨g,o,none⟩ /\ At4 w g (o + k * 4) na A1 n1 c1 nb B m d /\ Fr w na A1 n1 c1 nb B m d (qs[k]?.getD 0):=by
 obtain ⟨es,h1,-,-,h4,rfl,h5⟩:=h;obtain ⟨g,o,e1,hc⟩:=h5 (by omega);have he:=List.getElem?_eq_getElem (l:=es) (i:=k) (by omega);refine ⟨g,o,es[k].na,es[k].A,es[k].n,es[k].c,es[k].nb,es[k].B,es[k].m,es[k].d,e1,hc k _ he,?_⟩;rw [List.getElem?_map,he];exact h4 es[k] (List.getElem_mem _)
end
theorem Zdi {t : TypeId} {B : Nat} {w0 w : World} {g : Nat} {s0 : St} (hB : Below B w0 w) (hs : B <= g) (hb : Blk w g t s0.cells) : ∃ W,(((((((w.setCell ⟨g,0,none⟩ (.int .i64 0)).setCell ⟨g,1,none⟩ (.int .i64 0)).setCell ⟨g,2,none⟩ (.int .i64 0)).setCell ⟨g,3,none⟩ (.int .i64 0)).setCell ⟨g,4,none⟩ (.int .i64 0)).setCell ⟨g,5,none⟩ (.int .i64 0)).setCell ⟨g,6,none⟩ (.int .i64 0)) = W /\ Below B w0 W /\ Blk W g t St.zero.cells:=Zmf St.zero hB hs hb
def MovPost (s : St) (dir : List Rat) (d : Int) (w : World) (e : Ending) (w' : World) : Prop:=
 e = .returned (.tuple #[.agg (movV s dir d).cells,.int .i64 (movE s dir d)]) /\ Below w.heap.size w w'
def Zjm (dir : List Rat) (d : Int) : Prop:=Sm (d : Rat) /\ ∀ i : Nat,Sm (dir[i]?.getD 0) /\ Sm (dir[i]?.getD 0 * (d : Rat))
theorem Zew (z : Int) : Rat.divInt z 1 = (z : Rat):=by
 rw [Rat.divInt_eq_div];grind
theorem Znz (s : St) (A : Option Addr) (c : Nat) (dir : List Rat) (d : Int) (w : World) (hD : FL w A 6 c dir) (hS : Zjm dir d) (hd1 : -9223372036854775808 <= d) (hd2 : d <= 9223372036854775807) :
    Calls Tryz.prog 85 #[.agg #[.int .i64 s.t,.int .i64 s.p0,.int .i64 s.p1,.int .i64 s.p2,.int .i64 s.v0,.int .i64 s.v1,.int .i64 s.v2],.slice A 6 c,.int .i64 d] w (MovPost s dir d w):=by
 have hcap:=hD.cap;unfold maxLen at hcap;obtain ⟨W0,hW0,hB0,⟨q0,q1⟩,s0⟩:=Zfg w 46 #[.int .i64 s.t,.int .i64 s.p0,.int .i64 s.p1,.int .i64 s.p2,.int .i64 s.v0,.int .i64 s.v1,.int .i64 s.v2] 46 #[.int .i64 0,.int .i64 0,.int .i64 0,.int .i64 0,.int .i64 0,.int .i64 0,.int .i64 0]
 have hmf : ∀ (fn : Fn) (first cap : Array Value) (w : World),(Instr.makeFunc fn first cap).run Tryz.prog w = .ok (.func fn first cap) w:=fun _ _ _ _=>rfl
 have q0' : Blk W0 w.heap.size 46 s.cells:=q0;have q1' : Blk W0 (w.heap.size + 1) 46 St.zero.cells:=q1;have hDh:=Za hD;have hOf:=Za (fun W=>Zq9 d 1 W hd1 hd2 (by omega) (by omega));replace hS:=Za hS;clear q0 q1 hD;have hq:=Za (And.intro q0' q1');clear q0' q1';replace hW0:=Za hW0;replace hB0:=Za hB0;go_enter Tryz.func85,Tryz.ntmps85;have hW0':=hW0.out;go_wp2_with fail;clear hW0 hW0';refine (hOf.out W0).mono ?_;rintro e w1 ⟨hb1,yn,yA,yk,yc,ym,yB,yj,yd,rfl,hY⟩;rw [Zew] at hY;have s1 : W0.heap.size <= w1.heap.size:=hb1.size;obtain ⟨q0,q1⟩:=hq.out;replace q0:=(Zc hb1 q0).alloc (.cells #[.bool yn,.slice yA yk yc,.bool ym,.slice yB yj yd] 29);replace q1:=(Zc hb1 q1).alloc (.cells #[.bool yn,.slice yA yk yc,.bool ym,.slice yB yj yd] 29);have q9 : Blk (w1.alloc (.cells #[.bool yn,.slice yA yk yc,.bool ym,.slice yB yj yd] 29)) w1.heap.size 29 #[.bool yn,.slice yA yk yc,.bool ym,.slice yB yj yd]:=Blk.new _ _ _;have hB1:=(hB0.out.trans (hb1.mono hB0.out.size)).alloc (by have:=hB0.out.size;omega) (.cells #[.bool yn,.slice yA yk yc,.bool ym,.slice yB yj yd] 29);have hY1:=hY.alloc (.cells #[.bool yn,.slice yA yk yc,.bool ym,.slice yB yj yd] 29);obtain ⟨V,hV⟩ : ∃ V,w1.alloc (.cells #[.bool yn,.slice yA yk yc,.bool ym,.slice yB yj yd] 29) = V:=⟨_,rfl⟩
 have sV : V.heap.size = w1.heap.size + 1:=by rw [<- hV];simp
 rw [hV] at q0 q1 q9 hB1 hY1;obtain ⟨g9,hg9⟩ : ∃ g,w1.heap.size = g:=⟨_,rfl⟩;rw [hg9] at q9;have hs0:=hB0.out.size
 have hg9' : w.heap.size + 1 + 1 <= g9:=by omega
 clear hq hB0 hb1 hY hOf;have hq:=Za (And.intro q0 (And.intro q1 q9));replace hY1:=Za hY1;replace hB1:=Za hB1;replace hV:=Za hV;clear q0 q1 q9;go_wp2_with fail;rw [hV.out];clear hV hg9
 go_loopg [25] 6 (fun k iv wr=>∃ i : Nat,i + k = 6 /\ iv = .int .i64 i /\ Hid (Below w.heap.size w wr) /\ Hid (∀ j,j < i -> Zdb (Zcr dir d j)) /\ Hid (Blk wr w.heap.size 46 (mvS s (Zcr dir d) i).cells /\ Blk wr (w.heap.size + 1) 46 St.zero.cells /\ Blk wr g9 29 #[.bool yn,.slice yA yk yc,.bool ym,.slice yB yj yd]) /\ Hid (Fr wr yn yA yk yc ym yB yj yd (d : Rat)))
 case atStart=>exact ⟨0,by omega,rfl,hB1,Za (fun j hj=>by omega),hq,hY1⟩
 case round =>
  clear hq hY1 hB1;obtain ⟨wi,rfl⟩ : ∃ x : World,x = wr:=⟨_,rfl⟩;obtain ⟨i,hik,rfl,hBi,hN,hq,hY⟩:=hrel;have sBi:=hBi.out.size
  cases gk with
  | zero =>
   obtain rfl : i = 6:=by omega
   have t5 : decide (((6 : Nat) : Int) < ((6 : Nat) : Int)) = false:=by decide
   obtain ⟨q0,q1,q9⟩:=hq.out;obtain ⟨S6,hS6⟩ : ∃ S,mvS s (Zcr dir d) 6 = S:=⟨_,rfl⟩;rw [hS6] at q0;obtain ⟨c0,c1,c2,c3,c4,c5,c6⟩:=Zai (show Blk wi w.heap.size 46 #[.int .i64 S6.t,.int .i64 S6.p0,.int .i64 S6.p1,.int .i64 S6.p2,.int .i64 S6.v0,.int .i64 S6.v1,.int .i64 S6.v2] from q0);clear hq hY;have hq:=Za (And.intro q0 q1);clear q0 q1 q9;go_wp2_with fail;refine (Zf7 S6 wi).mono ?_;rintro e w5 ⟨rfl,hb5⟩;obtain ⟨q0,q1⟩:=hq.out;replace q0:=Zc hb5 q0;replace q1:=Zc hb5 q1;have hB5:=hBi.out.trans (hb5.mono hBi.out.size);clear c0 c1 c2 c3 c4 c5 c6 hq hb5;obtain ⟨E,hE⟩ : ∃ E,stE S6 = E:=⟨_,rfl⟩;rw [hE];obtain ⟨f0,f1,f2,f3,f4,f5,f6⟩:=q1.frozen7;obtain ⟨x0,x1,x2,x3,x4,x5,x6⟩:=Zai (show Blk w5 (w.heap.size + 1) 46 #[.int .i64 0,.int .i64 0,.int .i64 0,.int .i64 0,.int .i64 0,.int .i64 0,.int .i64 0] from q1)
   by_cases h0 : E = 0
   case neg =>
    have t0 : (E == 0) = false:=by simpa using h0
    have t0' : decide (E = 0) = false:=by simpa using h0
    have t0'' : (E != 0) = true:=by rw [bne,t0];rfl
    have hM:=Za (Zkl (s:=s) (dir:=dir) (d:=d) (by rw [hS6,hE];exact h0));have hqq:=Za (And.intro hB5 q1);clear hS6 hE hB5 q1 q0;replace h0:=Za h0;go_wp2_with fail;obtain ⟨W6,hW6,hB6,q6⟩:=Zdi hqq.out.1 (by omega) hqq.out.2;rw [hW6];obtain ⟨y0,y1,y2,y3,y4,y5,y6⟩:=Zai (show Blk W6 (w.heap.size + 1) 46 #[.int .i64 0,.int .i64 0,.int .i64 0,.int .i64 0,.int .i64 0,.int .i64 0,.int .i64 0] from q6);refine bodyPost_ret (v:=.tuple #[.agg #[.int .i64 0,.int .i64 0,.int .i64 0,.int .i64 0,.int .i64 0,.int .i64 0,.int .i64 0],.int .i64 24]) (by simp [results,Tryz.results85,go_sem,y0,y1,y2,y3,y4,y5,y6]) rfl ?_;exact ⟨by rw [hM.out.1,hM.out.2];rfl,hB6⟩
   subst h0;have hM:=Za (Zn3 (s:=s) (dir:=dir) (d:=d) (fun j hj=>hN.out j hj) (by rw [hS6,hE]));rw [hS6] at hM;obtain ⟨c0,c1,c2,c3,c4,c5,c6⟩:=Zai (show Blk w5 w.heap.size 46 #[.int .i64 S6.t,.int .i64 S6.p0,.int .i64 S6.p1,.int .i64 S6.p2,.int .i64 S6.v0,.int .i64 S6.v1,.int .i64 S6.v2] from q0);have hqq:=Za (And.intro hB5 q1);clear hS6 hE hB5 q1 q0;go_wp2_with fail;obtain ⟨W6,hW6,hB6,q6⟩:=Zmf S6 hqq.out.1 (by omega) hqq.out.2;rw [hW6];obtain ⟨y0,y1,y2,y3,y4,y5,y6⟩:=Zai (show Blk W6 (w.heap.size + 1) 46 #[.int .i64 S6.t,.int .i64 S6.p0,.int .i64 S6.p1,.int .i64 S6.p2,.int .i64 S6.v0,.int .i64 S6.v1,.int .i64 S6.v2] from q6);refine bodyPost_ret (v:=.tuple #[.agg #[.int .i64 S6.t,.int .i64 S6.p0,.int .i64 S6.p1,.int .i64 S6.p2,.int .i64 S6.v0,.int .i64 S6.v1,.int .i64 S6.v2],.int .i64 0]) (by simp [results,Tryz.results85,go_sem,y0,y1,y2,y3,y4,y5,y6]) rfl ?_;exact ⟨by rw [hM.out.1,hM.out.2];rfl,hB6⟩
  | succ t' =>
   obtain rfl : t' = 6 - (i + 1):=by omega
   have hi6 : i < 6:=by omega
   have t5 : decide ((i : Int) < 6) = true:=decide_eq_true (by omega);have t5' : decide ((i : Int) < ((6 : Nat) : Int)) = true:=decide_eq_true (by omega)
   have bi : (i : Int) < 6:=by omega
   have bi' : (i : Int) < ((6 : Nat) : Int):=by omega
   obtain ⟨g2,o2,fn,fA,fk,fc,fm,fB,fj,fd,rfl,⟨x0,x1,x2,x3⟩,hX⟩:=(hDh.out.below hBi.out).at_ hi6;obtain ⟨q0,q1,q9⟩:=hq.out;have l9:=q9.lt;replace q0:=q0.alloc (.cells #[.bool fn,.slice fA fk fc,.bool fm,.slice fB fj fd] 29);replace q1:=q1.alloc (.cells #[.bool fn,.slice fA fk fc,.bool fm,.slice fB fj fd] 29);replace q9:=q9.alloc (.cells #[.bool fn,.slice fA fk fc,.bool fm,.slice fB fj fd] 29);have q12 : Blk (wi.alloc (.cells #[.bool fn,.slice fA fk fc,.bool fm,.slice fB fj fd] 29)) wi.heap.size 29 #[.bool fn,.slice fA fk fc,.bool fm,.slice fB fj fd]:=Blk.new _ _ _;have hB2:=hBi.out.alloc sBi (.cells #[.bool fn,.slice fA fk fc,.bool fm,.slice fB fj fd] 29);have hX2:=hX.alloc (.cells #[.bool fn,.slice fA fk fc,.bool fm,.slice fB fj fd] 29);have hY2:=hY.out.alloc (.cells #[.bool fn,.slice fA fk fc,.bool fm,.slice fB fj fd] 29);obtain ⟨y0,y1,y2,y3,-⟩:=q9.four;obtain ⟨V2,hV2⟩ : ∃ V,wi.alloc (.cells #[.bool fn,.slice fA fk fc,.bool fm,.slice fB fj fd] 29) = V:=⟨_,rfl⟩
   have sV2 : V2.heap.size = wi.heap.size + 1:=by rw [<- hV2];simp
   rw [hV2] at q0 q1 q9 q12 hB2 hX2 hY2;clear hq hX hY;have hq:=Za (And.intro q0 (And.intro q1 (And.intro q9 q12)));clear q0 q1 q9 q12;replace hX2:=Za hX2;replace hY2:=Za hY2;replace hB2:=Za hB2;replace hV2:=Za hV2;go_wp2_with fail;rw [hV2.out];refine (Znt fn fm yn ym fA fB yA yB fk fc fj fd yk yc yj yd _ _ V2 hX2.out hY2.out (hS.out.2 i).1 hS.out.1).mono ?_;rintro e w5 ⟨hb5,nx,Ax,kx,cx,ny,Ay,ky,cy,rfl,hF⟩;obtain ⟨q0,q1,q9,q12⟩:=hq.out;have s5:=hb5.size;replace q0:=Zc hb5 q0;replace q1:=Zc hb5 q1;replace q9:=Zc hb5 q9;replace q12:=Zc hb5 q12;have hB5:=hB2.out.trans (hb5.mono hB2.out.size);have hY5:=Za (hY2.out.below hb5);have sB2:=hB2.out.size;clear hq hX2 hY2 hB2 hV2 hb5 y0 y1 y2 y3 x0 x1 x2 x3;obtain ⟨z0,z1,z2,z3,f0,f1,f2,f3⟩:=q12.four;have hq:=Za (And.intro q0 (And.intro q1 (And.intro q9 q12)));clear q0 q1 q9 q12;replace hF:=Za hF;replace hB5:=Za hB5;go_wp2_with fail;obtain ⟨q0,q1,q9,q12⟩:=hq.out;obtain ⟨W6,hW6,hB6,q12',kW,kB,s6⟩:=Zau nx Ax kx cx ny Ay ky cy hB5.out (by omega) q12;rw [hW6];replace q0:=kB _ _ _ (by omega) q0;replace q1:=kB _ _ _ (by omega) q1;replace q9:=kB _ _ _ (by omega) q9;have hY6 : Hid (Fr W6 yn yA yk yc ym yB yj yd (d : Rat)):=Za ⟨kW _ _ _ _ _ hY5.out.1,kW _ _ _ _ _ hY5.out.2⟩;have hF6 : Fr W6 nx Ax kx cx ny Ay ky cy (dir[i]?.getD 0 * (d : Rat)):=⟨kW _ _ _ _ _ hF.out.1,kW _ _ _ _ _ hF.out.2⟩;clear hq hW6 hB5 q12 q12' kW kB z0 z1 z2 z3 f0 f1 f2 f3 hF hY5;refine (Zoa nx ny Ax Ay kx cx ky cy _ W6 hF6 (hS.out.2 i).2).mono ?_
   rintro e w7 ⟨hb7,nz,Az,kz,cz,rfl,hZ⟩;have s7:=hb7.size;replace q0:=(Zc hb7 q0).alloc (.cells #[.bool nz,.slice Az kz cz] 27);replace q1:=(Zc hb7 q1).alloc (.cells #[.bool nz,.slice Az kz cz] 27);replace q9:=(Zc hb7 q9).alloc (.cells #[.bool nz,.slice Az kz cz] 27);have hY7:=(hY6.out.below hb7).alloc (.cells #[.bool nz,.slice Az kz cz] 27);have hB7:=(hB6.trans (hb7.mono hB6.size)).alloc (by have:=hB6.size;omega) (.cells #[.bool nz,.slice Az kz cz] 27);have hZ7:=hZ.alloc (.cells #[.bool nz,.slice Az kz cz] 27);have sB6:=hB6.size;obtain ⟨V8,hV8⟩ : ∃ V,w7.alloc (.cells #[.bool nz,.slice Az kz cz] 27) = V:=⟨_,rfl⟩
   have sV8 : V8.heap.size = w7.heap.size + 1:=by rw [<- hV8];simp
   rw [hV8] at q0 q1 q9 hY7 hB7 hZ7;obtain ⟨z,hz⟩ : ∃ z,Zhw (dir[i]?.getD 0 * (d : Rat)) = z:=⟨_,rfl⟩;rw [hz] at hZ7;have hzw : Zcr dir d i = z:=hz;clear hF6 hB6 hb7 hZ hY6 hz;have hq:=Za (And.intro q0 (And.intro q1 q9));clear q0 q1 q9;replace hY7:=Za hY7;replace hB7:=Za hB7;replace hZ7:=Za hZ7;replace hV8:=Za hV8;replace hzw:=Za hzw;go_wp2_with fail;rw [hV8.out];refine (Znr nz Az kz cz z V8 hZ7.out).mono ?_;rintro e w9 ⟨rfl,hb9⟩;obtain ⟨q0,q1,q9⟩:=hq.out;have s9:=hb9.size;replace q0:=Zc hb9 q0;replace q1:=Zc hb9 q1;replace q9:=Zc hb9 q9;replace hY7:=Za (hY7.out.below hb9);have hB9:=hB7.out.trans (hb9.mono hB7.out.size);clear hq hV8 hb9 hZ7 hB7
   by_cases hn : Zdb z
   case neg =>
    have hM:=Za (Zqg (s:=s) (dir:=dir) (d:=d) hi6 (by rw [hzw.out];exact hn));obtain ⟨f0,f1,f2,f3,f4,f5,f6⟩:=q1.frozen7;obtain ⟨x0,x1,x2,x3,x4,x5,x6⟩:=Zai (show Blk w9 (w.heap.size + 1) 46 #[.int .i64 0,.int .i64 0,.int .i64 0,.int .i64 0,.int .i64 0,.int .i64 0,.int .i64 0] from q1);have hqq:=Za (And.intro hB9 q1);clear hB9 q1 q0 q9 hY7 hzw hN
    by_cases hfit : -9223372036854775808 <= z /\ z < 9223372036854775808
    case neg =>
     rw [Zeg hfit,Zei hfit];clear hfit hn;go_wp2_with fail;obtain ⟨W6,hW6,hB6,q6⟩:=Zdi hqq.out.1 (by omega) hqq.out.2;rw [hW6];obtain ⟨y0,y1,y2,y3,y4,y5,y6⟩:=Zai (show Blk W6 (w.heap.size + 1) 46 #[.int .i64 0,.int .i64 0,.int .i64 0,.int .i64 0,.int .i64 0,.int .i64 0,.int .i64 0] from q6);refine bodyPost_ret (v:=.tuple #[.agg #[.int .i64 0,.int .i64 0,.int .i64 0,.int .i64 0,.int .i64 0,.int .i64 0,.int .i64 0],.int .i64 24]) (by simp [results,Tryz.results85,go_sem,y0,y1,y2,y3,y4,y5,y6]) rfl ?_;exact ⟨by rw [hM.out.1,hM.out.2];rfl,hB6⟩
    rw [Zft hfit,Zfp hfit]
    by_cases hgt : 1152921504606846976 < z
    case pos =>
     have t6 : decide (1152921504606846976 < z) = true:=decide_eq_true hgt;clear hfit hn hgt;go_wp2_with fail;obtain ⟨W6,hW6,hB6,q6⟩:=Zdi hqq.out.1 (by omega) hqq.out.2;rw [hW6];obtain ⟨y0,y1,y2,y3,y4,y5,y6⟩:=Zai (show Blk W6 (w.heap.size + 1) 46 #[.int .i64 0,.int .i64 0,.int .i64 0,.int .i64 0,.int .i64 0,.int .i64 0,.int .i64 0] from q6);refine bodyPost_ret (v:=.tuple #[.agg #[.int .i64 0,.int .i64 0,.int .i64 0,.int .i64 0,.int .i64 0,.int .i64 0,.int .i64 0],.int .i64 24]) (by simp [results,Tryz.results85,go_sem,y0,y1,y2,y3,y4,y5,y6]) rfl ?_;exact ⟨by rw [hM.out.1,hM.out.2];rfl,hB6⟩
    case neg =>
     have t6 : decide (1152921504606846976 < z) = false:=decide_eq_false hgt;have t7 : decide (z < -1152921504606846976) = true:=decide_eq_true (by unfold Zdb at hn;omega);clear hfit hn hgt;go_wp2_with fail;obtain ⟨W6,hW6,hB6,q6⟩:=Zdi hqq.out.1 (by omega) hqq.out.2;rw [hW6];obtain ⟨y0,y1,y2,y3,y4,y5,y6⟩:=Zai (show Blk W6 (w.heap.size + 1) 46 #[.int .i64 0,.int .i64 0,.int .i64 0,.int .i64 0,.int .i64 0,.int .i64 0,.int .i64 0] from q6);refine bodyPost_ret (v:=.tuple #[.agg #[.int .i64 0,.int .i64 0,.int .i64 0,.int .i64 0,.int .i64 0,.int .i64 0,.int .i64 0],.int .i64 24]) (by simp [results,Tryz.results85,go_sem,y0,y1,y2,y3,y4,y5,y6]) rfl ?_;exact ⟨by rw [hM.out.1,hM.out.2];rfl,hB6⟩
   have hfit : -9223372036854775808 <= z /\ z < 9223372036854775808:=by unfold Zdb at hn;omega
   rw [Zft hfit,Zfp hfit];have t6 : decide (1152921504606846976 < z) = false:=decide_eq_false (by unfold Zdb at hn;omega);have t7 : decide (z < -1152921504606846976) = false:=decide_eq_false (by unfold Zdb at hn;omega)
   have hN2 : Hid (∀ j,j < i + 1 -> Zdb (Zcr dir d j)):=Za (fun j hj=>by
    by_cases e : j = i
    ·subst e;rw [hzw.out];exact hn
    ·exact hN.out j (by omega))
   replace hn:=Za hn;have hq:=Za (And.intro q0 (And.intro q1 q9))
   have hcx : w9.cell? ⟨w.heap.size,i + 1,none⟩ = some (.int .i64 (s.num i)):=by
    have:=q0.cell (i + 1);rw [mvS_get s _ hi6] at this;exact this
   have hfx:=q0.frozen (i + 1);obtain ⟨xn,hxn⟩ : ∃ x,s.num i = x:=⟨_,rfl⟩;rw [hxn] at hcx;clear q0 q1 q9 hfit;replace hB9:=Za hB9;replace hxn:=Za hxn;have hnum:=Za (fun W=>Zoc i w.heap.size hi6 W);go_wp2_with fail;refine (hnum.out _).mono ?_;rintro e w9 ⟨rfl,rfl⟩;go_wp2_with fail;obtain ⟨q0,q1,q9⟩:=hq.out;obtain ⟨W10,hW10,hB10,q0',kW,kB,s10⟩:=set_one (.int .i64 (wrap64 (xn + z))) hB9.out (Nat.le_refl _) q0 (St.noLimb _);rw [hW10];replace q1:=kB _ _ _ (by omega) q1;replace q9:=kB _ _ _ (by omega) q9;have hY10 : Hid (Fr W10 yn yA yk yc ym yB yj yd (d : Rat)):=Za ⟨kW _ _ _ _ _ hY7.out.1,kW _ _ _ _ _ hY7.out.2⟩
   have q0'' : Blk W10 w.heap.size 46 (mvS s (Zcr dir d) (i + 1)).cells:=by
    have h:=mvS_set s (Zcr dir d) hi6;rw [hzw.out,hxn.out] at h;rw [<- h];exact q0'
   have hfin:=Za (And.intro q0'' (And.intro q1 q9));replace hB10:=Za hB10;clear hq hW10 hB9 q0 q0' q0'' q1 q9 kW kB hY7 hcx hfx
   go_roundg (6 - (i + 1))
   case measure=>omega
   case rel=>exact ⟨i + 1,by omega,by go_num,hB10,hN2,hfin,hY10⟩
end Go.Proofs.YtpehacgjclkhmaaGreat
