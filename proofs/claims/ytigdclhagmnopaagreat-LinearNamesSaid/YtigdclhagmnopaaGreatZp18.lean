/- Reference of frac: added. Rows of fractions of the call's own. -/
import Derived.Maps.AppendAt
import Derived.Test.YtigdclhagmnopaaGreatZp16
import Derived.Test.YtigdclhagmnopaaGreatZp17
set_option linter.unusedSimpArgs false
set_option linter.unusedVariables false
namespace Go.Proofs.YtigdclhagmnopaaGreat
open Go.RowKit
attribute [local go_sem] Zh
theorem Fr.keep {w W : World} {na : Bool} {A : Option Addr} {n c : Nat} {nb : Bool} {B : Option Addr} {m d : Nat} {r : Rat} (h : Fr w na A n c nb B m d r) (k : ∀ na A n c z,Wd w na A n c z -> Wd W na A n c z) : Fr W na A n c nb B m d r:=⟨k _ _ _ _ _ h.1,k _ _ _ _ _ h.2⟩
structure FE where
 na : Bool
 A : Option Addr
 n : Nat
 c : Nat
 nb : Bool
 B : Option Addr
 m : Nat
 d : Nat
 q : Rat
def FE.in_ (w : World) (e : FE) : Prop:=Fr w e.na e.A e.n e.c e.nb e.B e.m e.d e.q
def Zo : List FE -> List Value
 | []=>[]
 | e :: l=>.bool e.na :: .slice e.A e.n e.c :: .bool e.nb :: .slice e.B e.m e.d :: Zo l
def Zx (es : List FE) : Array Value:=(Zo es).toArray
theorem Zr (es : List FE) : (Zo es).length = es.length * 4:=by
 induction es with
 | nil=>rfl
 | cons e l ih=>simp only [Zo,List.length_cons,ih];omega
theorem Zej {es : List FE} {i : Nat} {e : FE} (h : es[i]? = some e) : (Zo es)[i * 4]? = some (.bool e.na) /\ (Zo es)[i * 4 + 1]? = some (.slice e.A e.n e.c) /\ (Zo es)[i * 4 + 2]? = some (.bool e.nb) /\ (Zo es)[i * 4 + 3]? = some (.slice e.B e.m e.d):=by
 induction es generalizing i with
 | nil=>simp at h
 | cons x l ih =>
  cases i with
  | zero=>simp at h;subst h;simp [Zo]
  | succ i =>
   have:=ih (by simpa using h);rw [show (i + 1) * 4 = i * 4 + 4 by omega]
   simpa [Zo] using this
theorem Zl6 (es : List FE) : ∀ (i x : Nat),(Zo es)[i]? ≠ some (limb x):=by
 induction es with
 | nil=>intro i x;simp [Zo]
 | cons e l ih =>
  intro i x
  match i with
  | 0=>simp [Zo]
  | 1=>simp [Zo]
  | 2=>simp [Zo]
  | 3=>simp [Zo]
  | i + 4=>simpa [Zo] using ih i x
theorem Zb6 {es : List FE} {i : Nat} {e : FE} (h : es[i]? = some e) : (Zx es)[i * 4]? = some (.bool e.na) /\ (Zx es)[i * 4 + 1]? = some (.slice e.A e.n e.c) /\ (Zx es)[i * 4 + 2]? = some (.bool e.nb) /\ (Zx es)[i * 4 + 3]? = some (.slice e.B e.m e.d):=by
 simpa [Zx] using Zej h
theorem Zco (es : List FE) : NoLimb (Zx es):=fun i x=>by simpa [Zx] using Zl6 es i x
def Zak : FE:=⟨false,none,0,0,false,none,0,0,0⟩
theorem Zah (es fs : List FE) : Zo (es ++ fs) = Zo es ++ Zo fs:=by
 induction es with
 | nil=>rfl
 | cons e l ih=>simp only [List.cons_append,Zo,ih]
theorem Zhz (fs : List FE) : ∀ u ∈ Zo fs,u.oneCell' = true:=by
 induction fs with
 | nil=>intro u h;simp [Zo] at h
 | cons e l ih =>
  intro u h;simp only [Zo,List.mem_cons] at h
  rcases h with rfl | rfl | rfl | rfl | h
  ·rfl
  ·rfl
  ·rfl
  ·rfl
  ·exact ih u h
theorem Zb0 (k : Nat) : (Builtin.zeroCells #[.bool false,.slice none 0 0,.bool false,.slice none 0 0] k).toList = Zo (List.replicate k Zak):=by
 unfold Builtin.zeroCells
 apply List.ext_getElem?
 intro i
 by_cases h : i < k * 4
 ·have he : (List.replicate k Zak)[i / 4]? = some Zak:=by rw [List.getElem?_replicate,if_pos (by omega)]
  have hc:=Zej he
  have h4 : i % 4 = 0 \/ i % 4 = 1 \/ i % 4 = 2 \/ i % 4 = 3:=by omega
  rcases h4 with h2 | h2 | h2 | h2
  ·rw [show i / 4 * 4 = i by omega] at hc;rw [hc.1];simp [h,h2,Zak]
  ·rw [show i / 4 * 4 + 1 = i by omega] at hc;rw [hc.2.1];simp [h,h2,Zak]
  ·rw [show i / 4 * 4 + 2 = i by omega] at hc;rw [hc.2.2.1];simp [h,h2,Zak]
  ·rw [show i / 4 * 4 + 3 = i by omega] at hc;rw [hc.2.2.2];simp [h,h2,Zak]
 ·rw [List.getElem?_eq_none (by simp;omega),List.getElem?_eq_none (by rw [Zr];simp;omega)]
def RowF (t : TypeId) (w : World) (base : Nat) (v : Value) (es : List FE) : Prop:=
 (v = .slice none 0 0 /\ es = []) \/ ∃ g sp,v = .slice (some ⟨g,0,none⟩) es.length (es.length + sp) /\ base <= g /\ es.length + sp <= maxLen /\ Blk w g t (Zx (es ++ List.replicate sp Zak))
section
variable {t : TypeId} {w w' : World} {base : Nat} {v : Value} {es : List FE}
theorem RowF.own (h : RowF t w base v es) : w.ownsRow base t 4 v es.length (Zo es):=by
 refine ⟨Zr es,?_⟩
 rcases h with ⟨h1,rfl⟩ | ⟨g,sp,h1,h2,h3,h4⟩
 ·exact .inl ⟨h1,rfl⟩
 ·refine .inr ⟨g,_,_,h1,h2,h4,Nat.le_add_right _ _,h3,?_,?_⟩
  ·simp [Zx,Zr]
  ·simp only [Zx]
   rw [Zah,<- Zr es];exact List.take_left
theorem RowF.row_ge (h : RowF t w base v es) : ∀ k,v.ownBlock = some k -> base <= k:=fun k hk=>(h.own.lt k hk).1
theorem RowF.kept (h : RowF t w base v es) (hb : Below w.heap.size w w') : RowF t w' base v es:=by
 rcases h with h | ⟨g,sp,h1,h2,h3,h4⟩
 ·exact .inl h
 ·exact .inr ⟨g,sp,h1,h2,h3,Zb hb h4⟩
theorem RowF.keep (h : RowF t w base v es) (hg : w.grownBy w' v.ownBlock) {A : Option Addr} {n c : Nat} {l : List Nat} (hL : Lim w A n c l) : Lim w' A n c l:=by
 refine ⟨hL.1,hL.2.1,hL.2.2.1,hL.2.2.2.1,fun hn=>?_⟩;obtain ⟨b,o,e,hc⟩:=hL.2.2.2.2 hn;refine ⟨b,o,e,fun k hk=>?_⟩;rw [<- hc k hk];refine World.cell?_of_block (hg.block b (Zp (hc k hk)) (fun e'=>?_))
 rcases h with ⟨rfl,_⟩ | ⟨g,sp,rfl,_,_,h4⟩
 ·cases e'
 ·have hbg : b = g:=by simpa [Value.ownBlock] using e'
  subst hbg;have h1:=hc k hk;rw [h4.cell] at h1;exact Zco _ _ _ h1
end
section
variable {P : Program} (w : World)
theorem Zjt (base : Nat) (t ty e : TypeId) (i : TypeInfo) (ht : P.underlying t = some (.slice e)) (hi : P.info? e = some i) (hz : i.zero = some (.agg #[.bool false,.slice none 0 0,.bool false,.slice none 0 0]))
    (hs : i.size = 4) (hby : i.bytes = 64) (v : Value) (es : List FE) (hown : RowF e w base v es)
    (B : Nat) (A : Option Addr) (m c : Nat) (fs : List FE) (hr : Reads w B 4 A m (Zo fs)) (hm : fs.length = m) (h63 : es.length + m <= 1000) (hbase : base <= w.heap.size) :
    ∃ v' w',(Builtin.append_ #[t,t] ty #[v,.slice A m c]).run P w = .ok v' w' /\ RowF e w' base v' (es ++ fs) /\ w.grownBy w' v.ownBlock:=by
 rcases Nat.eq_zero_or_pos m with h0 | h0
 ·subst h0
  obtain rfl : fs = []:=List.eq_nil_of_length_eq_zero hm;rw [List.append_nil]
  rcases A with _ | ad
  ·exact ⟨v,w,Zbv w base t ty e i 4 ht hi v _ _ hown.own c,hown,World.grownBy.refl w _⟩
  ·have hf:=run_firstCells_some (P:=P) w i.size 0 ad 0 c [] (by simp) (by simp)
   rcases hown with ⟨rfl,rfl⟩ | ⟨g,sp,rfl,h2,h3,h4⟩
   ·refine ⟨.slice none 0 0,w,?_,.inl ⟨rfl,rfl⟩,World.grownBy.refl w _⟩
    simp [Builtin.append_,run_underlying ht,sizeOf,typeInfo,hi,Builtin.lenOf,Builtin.firstCells,loadCells,loadCellsFrom]
   ·refine ⟨_,w,?_,.inr ⟨g,sp,rfl,h2,h3,h4⟩,World.grownBy.refl w _⟩
    simp [Builtin.append_,run_underlying ht,sizeOf,typeInfo,hi,Builtin.lenOf,Builtin.firstCells,loadCells,loadCellsFrom,storeCells]
 ·obtain ⟨ad,rfl,_,hc⟩:=hr.2 h0
  have hl : (Zo fs).length = m * i.size:=by rw [Zr,hm,hs]
  have hle : es.length * i.size = (Zo es).length:=by rw [Zr,hs]
  rcases hown with ⟨rfl,rfl⟩ | ⟨g,sp,rfl,h2,h3,h4⟩
  ·have hrun:=run_append_nil (P:=P) w t ty e i _ ht hi hz ad m c (Zo fs) hl hc h0 (by omega) (by rw [hby];omega)
   have hge:=grownCap_ge w m 0 e;have hcm:=grownCap_le_maxLen w m 0 e (by unfold maxLen;simp only [List.length_nil] at h63;omega);refine ⟨_,_,hrun,.inr ⟨w.heap.size,grownCap w m 0 e - m,?_,hbase,?_,?_⟩,⟨rfl,rfl,rfl,by simp,fun k hk _=>Below.heap_alloc w.drew _ k hk⟩⟩
   ·rw [List.nil_append,hm,Nat.add_sub_cancel' hge]
   ·rw [List.nil_append,hm,Nat.add_sub_cancel' hge];exact hcm
   ·have:=heap_alloc_new w.drew (.cells ((Zo fs).toArray ++ Builtin.zeroCells (Value.agg #[.bool false,.slice none 0 0,.bool false,.slice none 0 0]).cells (grownCap w m 0 e - m)) e)
    unfold Blk;refine this.trans ?_
    congr 1
    have hx : (Zo fs).toArray ++ Builtin.zeroCells (Value.agg #[.bool false,.slice none 0 0,.bool false,.slice none 0 0]).cells (grownCap w m 0 e - m) = Zx ([] ++ fs ++ List.replicate (grownCap w m 0 e - m) Zak):=by
     apply Array.toList_inj.1
     rw [Array.toList_append,show (Value.agg #[.bool false,.slice none 0 0,.bool false,.slice none 0 0]).cells = #[.bool false,.slice none 0 0,.bool false,.slice none 0 0] from rfl,Zb0]
     simp [Zx,Zah]
    rw [hx]
  ·by_cases hroom : m <= sp
   ·have hrun:=run_append_room (P:=P) w t ty e i ht hi g es.length (es.length + sp) _ h4 ad m c (Zo fs) hl hc (Zhz fs) (by omega) (by rw [hle,Zr,Zr];simp [Zx,Zr];omega)
    refine ⟨_,_,hrun,.inr ⟨g,sp - m,?_,h2,?_,?_⟩,⟨rfl,rfl,rfl,by simp [World.setRow],fun k _ hk=>setRow_other w g k _ (fun e'=>hk (by simp [Value.ownBlock,e']))⟩⟩
    ·rw [List.length_append,hm,show es.length + m + (sp - m) = es.length + sp by omega]
    ·rw [List.length_append,hm];omega
    ·refine (setRow_heap w g _ _ e _ h4).trans ?_
     congr 2
     unfold Zx
     congr 1
     rw [hle]
     have hrep : List.replicate sp Zak = List.replicate m Zak ++ List.replicate (sp - m) Zak:=by rw [List.replicate_append_replicate];congr 1;omega
     have hlm : (Zo fs).length = (Zo (List.replicate m Zak)).length:=by rw [Zr,Zr,hm,List.length_replicate]
     simp only [Zah];rw [List.take_left,hlm,<- List.length_append,hrep,Zah,<- List.append_assoc (Zo es),List.drop_left,List.append_assoc]
   ·have holds : ∀ j u,(Zo es)[j]? = some u -> w.cell? ((⟨g,0,none⟩ : Addr).add j) = some u:=fun j u hu=>by
      rw [Zh,Nat.zero_add,h4.cell];simp only [Zx,List.getElem?_toArray,Zah];rw [List.getElem?_append_left (by rw [List.getElem?_eq_some_iff] at hu;exact hu.1)];exact hu
    have hrun:=run_append_grow (P:=P) w t ty e i _ ht hi hz ⟨g,0,none⟩ es.length (es.length + sp) (Zo es) hle.symm holds ad m c (Zo fs) hl hc (by omega) (by omega) (growslice_fits (by omega) (by rw [hby];omega));have hge:=grownCap_ge w (es.length + m) (es.length + sp) e;have hcm:=grownCap_le_maxLen w (es.length + m) (es.length + sp) e (by unfold maxLen;omega);refine ⟨_,_,hrun,.inr ⟨w.heap.size,grownCap w (es.length + m) (es.length + sp) e - (es.length + m),?_,hbase,?_,?_⟩,⟨rfl,rfl,rfl,by simp,fun k hk _=>Below.heap_alloc w.drew _ k hk⟩⟩
    ·rw [List.length_append,hm,Nat.add_sub_cancel' hge]
    ·rw [List.length_append,hm,Nat.add_sub_cancel' hge];exact hcm
    ·have:=heap_alloc_new w.drew (.cells ((Zo es).toArray ++ (Zo fs).toArray ++ Builtin.zeroCells (Value.agg #[.bool false,.slice none 0 0,.bool false,.slice none 0 0]).cells (grownCap w (es.length + m) (es.length + sp) e - (es.length + m))) e)
     unfold Blk;refine this.trans ?_
     congr 1
     have hx : (Zo es).toArray ++ (Zo fs).toArray ++ Builtin.zeroCells (Value.agg #[.bool false,.slice none 0 0,.bool false,.slice none 0 0]).cells (grownCap w (es.length + m) (es.length + sp) e - (es.length + m)) = Zx (es ++ fs ++ List.replicate (grownCap w (es.length + m) (es.length + sp) e - (es.length + m)) Zak):=by
      apply Array.toList_inj.1
      rw [Array.toList_append,Array.toList_append,show (Value.agg #[.bool false,.slice none 0 0,.bool false,.slice none 0 0]).cells = #[.bool false,.slice none 0 0,.bool false,.slice none 0 0] from rfl,Zb0]
      simp [Zx,Zah]
     rw [hx]
end
def OwnF (t : TypeId) (w : World) (base : Nat) (v : Value) (qs : List Rat) : Prop:=∃ es,RowF t w base v es /\ (∀ e ∈ es,e.in_ w) /\ es.map FE.q = qs
theorem Fr.of_keep {w w' : World} {na : Bool} {A : Option Addr} {n c : Nat} {nb : Bool} {B : Option Addr} {m d : Nat} {r : Rat} (h : Fr w na A n c nb B m d r) (hk : ∀ (A : Option Addr) (n c : Nat) (l : List Nat),Lim w A n c l -> Lim w' A n c l) : Fr w' na A n c nb B m d r:=⟨⟨h.1.1,h.1.2.1,hk _ _ _ _ h.1.2.2⟩,⟨h.2.1,h.2.2.1,hk _ _ _ _ h.2.2.2⟩⟩
section
variable {t : TypeId} {w w' : World} {base : Nat} {v : Value} {qs : List Rat}
theorem OwnF.nil (t : TypeId) (w : World) (base : Nat) : OwnF t w base (.slice none 0 0) []:=⟨[],.inl ⟨rfl,rfl⟩,fun e h=>by simp at h,rfl⟩
theorem OwnF.kept (h : OwnF t w base v qs) (hb : Below w.heap.size w w') : OwnF t w' base v qs:=by
 obtain ⟨es,h1,h2,h3⟩:=h;exact ⟨es,h1.kept hb,fun e he=>(h2 e he).below hb,h3⟩
theorem OwnF.row_ge (h : OwnF t w base v qs) : ∀ k,v.ownBlock = some k -> base <= k:=by obtain ⟨es,h1,_⟩:=h;exact h1.row_ge
def FL (w : World) (A : Option Addr) (n c : Nat) (qs : List Rat) : Prop:=
 ∃ es : List FE,es.length = n /\ n <= c /\ c <= maxLen /\ (∀ e ∈ es,e.in_ w) /\ es.map FE.q = qs /\ (0 < n -> ∃ g o,A = some ⟨g,o,none⟩ /\ ∀ (k : Nat) (e : FE),es[k]? = some e -> w.cell? ⟨g,o + k * 4,none⟩ = some (.bool e.na) /\ w.cell? ⟨g,o + (k * 4 + 1),none⟩ = some (.slice e.A e.n e.c) /\ w.cell? ⟨g,o + (k * 4 + 2),none⟩ = some (.bool e.nb) /\ w.cell? ⟨g,o + (k * 4 + 3),none⟩ = some (.slice e.B e.m e.d))
theorem OwnF.fl (h : OwnF t w base v qs) : ∃ A c,v = .slice A qs.length c /\ FL w A qs.length c qs:=by
 obtain ⟨es,h1,h2,rfl⟩:=h
 rcases h1 with ⟨rfl,rfl⟩ | ⟨g,sp,rfl,h4,h5,h6⟩
 ·exact ⟨none,0,rfl,[],rfl,Nat.le_refl _,Nat.zero_le _,fun e h=>by simp at h,rfl,fun h=>absurd h (by simp)⟩
 ·rw [List.length_map]
  refine ⟨_,es.length + sp,rfl,es,rfl,Nat.le_add_right _ _,h5,h2,rfl,fun _=>⟨g,0,rfl,fun k e he=>?_⟩⟩;have hk : k < es.length:=(List.getElem?_eq_some_iff.1 he).1;have hc:=Zb6 (es:=es ++ List.replicate sp Zak) (i:=k) (e:=e) (by rw [List.getElem?_append_left hk];exact he);simp only [Nat.zero_add,h6.cell];exact hc
theorem FL.below {A : Option Addr} {n c : Nat} (h : FL w A n c qs) (hb : Below w.heap.size w w') : FL w' A n c qs:=by
 obtain ⟨es,h1,h2,h3,h4,h5,h6⟩:=h;refine ⟨es,h1,h2,h3,fun e he=>(h4 e he).below hb,h5,fun hn=>?_⟩;obtain ⟨g,o,e1,hc⟩:=h6 hn;refine ⟨g,o,e1,fun k e he=>?_⟩;obtain ⟨a,b,c',d⟩:=hc k e he;exact ⟨(hb.cell (Zp a)).trans a,(hb.cell (Zp b)).trans b,(hb.cell (Zp c')).trans c',(hb.cell (Zp d)).trans d⟩
end
theorem Zfm {w : World} {g : Nat} {t : TypeId} {na : Bool} {A : Option Addr} {n c : Nat} {nb : Bool} {B : Option Addr} {m d : Nat} (q : Rat) (h : Blk w g t #[.bool na,.slice A n c,.bool nb,.slice B m d]) : Reads w (g + 1) 4 (some ⟨g,0,none⟩) 1 (Zo [⟨na,A,n,c,nb,B,m,d,q⟩]):=
 ⟨rfl,fun _=>⟨_,rfl,Nat.lt_succ_self _,fun j u hu=>by
  rw [Zh,Nat.zero_add,h.cell]
  simpa [Zo] using hu⟩⟩
section
variable {P : Program} (w : World)
theorem Zgb {o : Oper} {a : Act} {K : Act -> World -> Prop} {Q : Exit -> Act -> World -> Prop} (s x : Operand) (t : TypeId)
    (ho : o.op = .call { callee:=.builtin .append,args:=#[s,x],argTypes:=#[t,t] })
    (base : Nat) (e : TypeId) (i : TypeInfo) (ht : P.underlying t = some (.slice e)) (hi : P.info? e = some i) (hz : i.zero = some (.agg #[.bool false,.slice none 0 0,.bool false,.slice none 0 0])) (hsi : i.size = 4) (hby : i.bytes = 64)
    (v : Value) (qs : List Rat) (hs : a.eval s = v) (hown : OwnF e w base v qs)
    (B : Nat) (A : Option Addr) (m c : Nat) (fs : List FE) (hx : a.eval x = .slice A m c) (hr : Reads w B 4 A m (Zo fs)) (hm : fs.length = m) (hfs : ∀ e ∈ fs,e.in_ w)
    (h63 : qs.length + m <= 1000) (hbase : base <= w.heap.size)
    (h : ∀ v' w',OwnF e w' base v' (qs ++ fs.map FE.q) -> w.grownBy w' v.ownBlock -> (∀ (A : Option Addr) (n c : Nat) (l : List Nat),Lim w A n c l -> Lim w' A n c l) -> K (a.put o.dst v') w') : o.wp P a w K Q:=by
 obtain ⟨es,h1,h2,rfl⟩:=hown;rw [List.length_map] at h63;obtain ⟨v',w',hrun,h3,h4⟩:=Zjt (P:=P) w base t o.type e i ht hi hz hsi hby v es h1 B A m c fs hr hm h63 hbase;unfold Oper.wp execOp;simp only [ho,resolve,invoke,builtin,Sem.run_bind,Sem.run_pure,Result.andThen_ok,List.map_toArray,List.map_cons,List.map_nil,hs,hx,hrun]
 have hk : ∀ (A : Option Addr) (n c : Nat) (l : List Nat),Lim w A n c l -> Lim w' A n c l:=fun _ _ _ _ hL=>h1.keep h4 hL
 refine h v' w' ⟨es ++ fs,h3,fun e he=>?_,by rw [List.map_append]⟩ h4 hk
 rcases List.mem_append.1 he with he | he
 ·exact (h2 e he).of_keep hk
 ·exact (hfs e he).of_keep hk
theorem Zeb {ops : Array Oper} {rest : List Oper} {o : Oper} {a : Act} {Q : Exit -> Act -> World -> Prop} (hgd : o.guard = none) (s x : Operand) (t : TypeId)
    (ho : o.op = .call { callee:=.builtin .append,args:=#[s,x],argTypes:=#[t,t] })
    (base : Nat) (e : TypeId) (i : TypeInfo) (ht : P.underlying t = some (.slice e)) (hi : P.info? e = some i) (hz : i.zero = some (.agg #[.bool false,.slice none 0 0,.bool false,.slice none 0 0])) (hsi : i.size = 4) (hby : i.bytes = 64)
    (v : Value) (qs : List Rat) (hs : a.eval s = v) (hown : OwnF e w base v qs)
    (B : Nat) (A : Option Addr) (m c : Nat) (fs : List FE) (hx : a.eval x = .slice A m c) (hr : Reads w B 4 A m (Zo fs)) (hm : fs.length = m) (hfs : ∀ e ∈ fs,e.in_ w)
    (h63 : qs.length + m <= 1000) (hbase : base <= w.heap.size)
    (h : ∀ v' w',OwnF e w' base v' (qs ++ fs.map FE.q) -> w.grownBy w' v.ownBlock -> (∀ (A : Option Addr) (n c : Nat) (l : List Nat),Lim w A n c l -> Lim w' A n c l) -> wpList P ops Q rest (a.put o.dst v') w') : wpList P ops Q (o :: rest) a w:=
 wpList_plain hgd fun _ hK=>Zgb w s x t ho base e i ht hi hz hsi hby v qs hs hown B A m c fs hx hr hm hfs h63 hbase fun v' w' h2 h3 h4=>hK _ _ (h v' w' h2 h3 h4)
end
end Go.Proofs.YtigdclhagmnopaaGreat
