/- Rows of slices of the call's own. Rows of fractions in a -/
import Derived.Test.YtaioanjcjijckaaGreatZl28
set_option linter.unusedSimpArgs false
set_option linter.unusedVariables false
namespace Go.Proofs.YtaioanjcjijckaaGreat
open Go.RowKit
structure RS where
 A : Option Addr
 n : Nat
 c : Nat
def RS.val (r : RS) : Value:=.slice r.A r.n r.c
def Zad : List RS -> List Value
 | []=>[]
 | e :: l=>.slice e.A e.n e.c :: Zad l
def Zbq (es : List RS) : Array Value:=(Zad es).toArray
def Zee : RS:=⟨none,0,0⟩
theorem Zan (es : List RS) : (Zad es).length = es.length * 1:=by
 induction es with
 | nil=>rfl
 | cons e l ih=>simp only [Zad,List.length_cons,ih];omega
theorem Zdo (es : List RS) : Zad es = es.map RS.val:=by
 induction es with
 | nil=>rfl
 | cons e l ih=>simp only [Zad,List.map_cons,ih];rfl
theorem Zo5 {es : List RS} {i : Nat} {e : RS} (h : es[i]? = some e) : (Zad es)[i]? = some (.slice e.A e.n e.c):=by
 rw [Zdo,List.getElem?_map,h];rfl
theorem Zhp {es : List RS} {i : Nat} {e : RS} (h : es[i]? = some e) : (Zbq es)[i]? = some (.slice e.A e.n e.c):=by simpa [Zbq] using Zo5 h
theorem Zj2 (es : List RS) : ∀ (i x : Nat),(Zad es)[i]? ≠ some (limb x):=by
 intro i x;rw [Zdo,List.getElem?_map]
 cases es[i]? with
 | none=>simp
 | some e=>simp [RS.val]
theorem Ze7 (es : List RS) : NoLimb (Zbq es):=fun i x=>by simpa [Zbq] using Zj2 es i x
theorem Zbv (es fs : List RS) : Zad (es ++ fs) = Zad es ++ Zad fs:=by simp only [Zdo,List.map_append]
theorem Zpe (fs : List RS) : ∀ u ∈ Zad fs,u.oneCell' = true:=by
 intro u h;rw [Zdo] at h;obtain ⟨r,-,rfl⟩:=List.mem_map.1 h
 rfl
theorem Zf3 (k : Nat) : (Builtin.zeroCells #[.slice none 0 0] k).toList = Zad (List.replicate k Zee):=by
 rw [Zdo];unfold Builtin.zeroCells
 apply List.ext_getElem?
 intro i
 by_cases h : i < k
 ·simp [h,Zee,RS.val,List.getElem?_replicate,Nat.mod_one]
 ·simp [h,List.getElem?_replicate]
def RowS (t : TypeId) (w : World) (base : Nat) (v : Value) (es : List RS) : Prop:=
 (v = .slice none 0 0 /\ es = []) \/ ∃ g sp,v = .slice (some ⟨g,0,none⟩) es.length (es.length + sp) /\ base <= g /\ es.length + sp <= maxLen /\ Blk w g t (Zbq (es ++ List.replicate sp Zee))
section
variable {t : TypeId} {w w' : World} {base : Nat} {v : Value} {es : List RS}
theorem RowS.own (h : RowS t w base v es) : w.ownsRow base t 1 v es.length (Zad es):=by
 refine ⟨Zan es,?_⟩
 rcases h with ⟨h1,rfl⟩ | ⟨g,sp,h1,h2,h3,h4⟩
 ·exact .inl ⟨h1,rfl⟩
 ·refine .inr ⟨g,_,_,h1,h2,h4,Nat.le_add_right _ _,h3,?_,?_⟩
  ·simp [Zbq,Zan]
  ·simp only [Zbq]
   rw [Zbv,<- Zan es];exact List.take_left
theorem RowS.row_ge (h : RowS t w base v es) : ∀ k,v.ownBlock = some k -> base <= k:=fun k hk=>(h.own.lt k hk).1
theorem RowS.kept (h : RowS t w base v es) (hb : Below w.heap.size w w') : RowS t w' base v es:=by
 rcases h with h | ⟨g,sp,h1,h2,h3,h4⟩
 ·exact .inl h
 ·exact .inr ⟨g,sp,h1,h2,h3,Zb hb h4⟩
theorem RowS.keep (h : RowS t w base v es) (hg : w.grownBy w' v.ownBlock) {A : Option Addr} {n c : Nat} {l : List Nat} (hL : Lim w A n c l) : Lim w' A n c l:=by
 refine ⟨hL.1,hL.2.1,hL.2.2.1,hL.2.2.2.1,fun hn=>?_⟩;obtain ⟨b,o,e,hc⟩:=hL.2.2.2.2 hn;refine ⟨b,o,e,fun k hk=>?_⟩;rw [<- hc k hk];refine World.cell?_of_block (hg.block b (Zs (hc k hk)) (fun e'=>?_))
 rcases h with ⟨rfl,_⟩ | ⟨g,sp,rfl,_,_,h4⟩
 ·cases e'
 ·have hbg : b = g:=by simpa [Value.ownBlock] using e'
  subst hbg;have h1:=hc k hk;rw [h4.cell] at h1;exact Ze7 _ _ _ h1
end
section
variable {P : Program} (w : World)
theorem Zjm (base : Nat) (t ty e : TypeId) (i : TypeInfo) (ht : P.underlying t = some (.slice e)) (hi : P.info? e = some i) (hz : i.zero = some (.slice none 0 0))
    (hs : i.size = 1) (hby : i.bytes = 24) (v : Value) (es : List RS) (hown : RowS e w base v es)
    (B : Nat) (A : Option Addr) (m c : Nat) (fs : List RS) (hr : Reads w B 1 A m (Zad fs)) (hm : fs.length = m) (h63 : es.length + m <= 1000) (hbase : base <= w.heap.size) :
    ∃ v' w',(Builtin.append_ #[t,t] ty #[v,.slice A m c]).run P w = .ok v' w' /\ RowS e w' base v' (es ++ fs) /\ w.grownBy w' v.ownBlock:=by
 rcases Nat.eq_zero_or_pos m with h0 | h0
 ·subst h0
  obtain rfl : fs = []:=List.eq_nil_of_length_eq_zero hm;rw [List.append_nil]
  rcases A with _ | ad
  ·exact ⟨v,w,Zbx w base t ty e i 1 ht hi v _ _ hown.own c,hown,World.grownBy.refl w _⟩
  ·have hf:=run_firstCells_some (P:=P) w i.size 0 ad 0 c [] (by simp) (by simp)
   rcases hown with ⟨rfl,rfl⟩ | ⟨g,sp,rfl,h2,h3,h4⟩
   ·refine ⟨.slice none 0 0,w,?_,.inl ⟨rfl,rfl⟩,World.grownBy.refl w _⟩
    simp [Builtin.append_,run_underlying ht,sizeOf,typeInfo,hi,Builtin.lenOf,Builtin.firstCells,loadCells,loadCellsFrom]
   ·refine ⟨_,w,?_,.inr ⟨g,sp,rfl,h2,h3,h4⟩,World.grownBy.refl w _⟩
    simp [Builtin.append_,run_underlying ht,sizeOf,typeInfo,hi,Builtin.lenOf,Builtin.firstCells,loadCells,loadCellsFrom,storeCells]
 ·obtain ⟨ad,rfl,_,hc⟩:=hr.2 h0
  have hl : (Zad fs).length = m * i.size:=by rw [Zan,hm,hs]
  have hle : es.length * i.size = (Zad es).length:=by rw [Zan,hs]
  rcases hown with ⟨rfl,rfl⟩ | ⟨g,sp,rfl,h2,h3,h4⟩
  ·have hrun:=run_append_nil (P:=P) w t ty e i _ ht hi hz ad m c (Zad fs) hl hc h0 (by omega) (by rw [hby];omega)
   have hge:=grownCap_ge w m 0 e;have hcm:=grownCap_le_maxLen w m 0 e (by unfold maxLen;simp only [List.length_nil] at h63;omega);refine ⟨_,_,hrun,.inr ⟨w.heap.size,grownCap w m 0 e - m,?_,hbase,?_,?_⟩,⟨rfl,rfl,rfl,by simp,fun k hk _=>Below.heap_alloc w.drew _ k hk⟩⟩
   ·rw [List.nil_append,hm,Nat.add_sub_cancel' hge]
   ·rw [List.nil_append,hm,Nat.add_sub_cancel' hge];exact hcm
   ·have:=heap_alloc_new w.drew (.cells ((Zad fs).toArray ++ Builtin.zeroCells (Value.slice none 0 0).cells (grownCap w m 0 e - m)) e)
    unfold Blk;refine this.trans ?_
    congr 1
    have hx : (Zad fs).toArray ++ Builtin.zeroCells (Value.slice none 0 0).cells (grownCap w m 0 e - m) = Zbq ([] ++ fs ++ List.replicate (grownCap w m 0 e - m) Zee):=by
     apply Array.toList_inj.1
     rw [Array.toList_append,show (Value.slice none 0 0).cells = #[.slice none 0 0] from rfl,Zf3]
     simp [Zbq,Zbv]
    rw [hx]
  ·by_cases hroom : m <= sp
   ·have hrun:=run_append_room (P:=P) w t ty e i ht hi g es.length (es.length + sp) _ h4 ad m c (Zad fs) hl hc (Zpe fs) (by omega) (by rw [hle,Zan,Zan];simp [Zbq,Zan];omega)
    refine ⟨_,_,hrun,.inr ⟨g,sp - m,?_,h2,?_,?_⟩,⟨rfl,rfl,rfl,by simp [World.setRow],fun k _ hk=>setRow_other w g k _ (fun e'=>hk (by simp [Value.ownBlock,e']))⟩⟩
    ·rw [List.length_append,hm,show es.length + m + (sp - m) = es.length + sp by omega]
    ·rw [List.length_append,hm];omega
    ·refine (setRow_heap w g _ _ e _ h4).trans ?_
     congr 2
     unfold Zbq
     congr 1
     rw [hle]
     have hrep : List.replicate sp Zee = List.replicate m Zee ++ List.replicate (sp - m) Zee:=by rw [List.replicate_append_replicate];congr 1;omega
     have hlm : (Zad fs).length = (Zad (List.replicate m Zee)).length:=by rw [Zan,Zan,hm,List.length_replicate]
     simp only [Zbv];rw [List.take_left,hlm,<- List.length_append,hrep,Zbv,<- List.append_assoc (Zad es),List.drop_left,List.append_assoc]
   ·have holds : ∀ j u,(Zad es)[j]? = some u -> w.cell? ((⟨g,0,none⟩ : Addr).add j) = some u:=fun j u hu=>by
      rw [Zg,Nat.zero_add,h4.cell];simp only [Zbq,List.getElem?_toArray,Zbv];rw [List.getElem?_append_left (by rw [List.getElem?_eq_some_iff] at hu;exact hu.1)];exact hu
    have hrun:=run_append_grow (P:=P) w t ty e i _ ht hi hz ⟨g,0,none⟩ es.length (es.length + sp) (Zad es) hle.symm holds ad m c (Zad fs) hl hc (by omega) (by omega) (growslice_fits (by omega) (by rw [hby];omega));have hge:=grownCap_ge w (es.length + m) (es.length + sp) e;have hcm:=grownCap_le_maxLen w (es.length + m) (es.length + sp) e (by unfold maxLen;omega);refine ⟨_,_,hrun,.inr ⟨w.heap.size,grownCap w (es.length + m) (es.length + sp) e - (es.length + m),?_,hbase,?_,?_⟩,⟨rfl,rfl,rfl,by simp,fun k hk _=>Below.heap_alloc w.drew _ k hk⟩⟩
    ·rw [List.length_append,hm,Nat.add_sub_cancel' hge]
    ·rw [List.length_append,hm,Nat.add_sub_cancel' hge];exact hcm
    ·have:=heap_alloc_new w.drew (.cells ((Zad es).toArray ++ (Zad fs).toArray ++ Builtin.zeroCells (Value.slice none 0 0).cells (grownCap w (es.length + m) (es.length + sp) e - (es.length + m))) e)
     unfold Blk;refine this.trans ?_
     congr 1
     have hx : (Zad es).toArray ++ (Zad fs).toArray ++ Builtin.zeroCells (Value.slice none 0 0).cells (grownCap w (es.length + m) (es.length + sp) e - (es.length + m)) = Zbq (es ++ fs ++ List.replicate (grownCap w (es.length + m) (es.length + sp) e - (es.length + m)) Zee):=by
      apply Array.toList_inj.1
      rw [Array.toList_append,Array.toList_append,show (Value.slice none 0 0).cells = #[.slice none 0 0] from rfl,Zf3]
      simp [Zbq,Zbv]
     rw [hx]
end
theorem Zor {es : List FE} {i : Nat} (e : FE) (h : i < es.length) : ((((Zp es).set (i * 4) (.bool e.na)).set (i * 4 + 1) (.slice e.A e.n e.c)).set (i * 4 + 2) (.bool e.nb)).set (i * 4 + 3) (.slice e.B e.m e.d) = Zp (es.set i e):=by
 induction es generalizing i with
 | nil=>simp at h
 | cons a l ih =>
  cases i with
  | zero=>rfl
  | succ i =>
   have:=ih (i:=i) (by simpa using h);rw [show (i + 1) * 4 = i * 4 + 1 + 1 + 1 + 1 by omega];simp only [Zp,List.set_cons_succ,this]
theorem Zhq {es : List FE} {i : Nat} (e : FE) (h : i < es.length) : ((((Z3 es).setIfInBounds (i * 4) (.bool e.na)).setIfInBounds (i * 4 + 1) (.slice e.A e.n e.c)).setIfInBounds (i * 4 + 2) (.bool e.nb)).setIfInBounds (i * 4 + 3) (.slice e.B e.m e.d) = Z3 (es.set i e):=by
 unfold Z3;rw [<- Zor e h];simp
theorem Zgd {cs : Array Value} (h : NoLimb cs) (i : Nat) {v : Value} (hv : ∀ x,v ≠ limb x) : NoLimb (cs.setIfInBounds i v):=fun j x=>by
 rw [Array.getElem?_setIfInBounds]
 split
 ·split
  ·simpa using hv x
  ·simp
 ·exact h j x
def Zh2 (w : World) (g i : Nat) (na : Bool) (A : Option Addr) (n c : Nat) (nb : Bool) (B : Option Addr) (m d : Nat) : World:=
 (((w.setCell ⟨g,i * 4,none⟩ (.bool na)).setCell ⟨g,i * 4 + 1,none⟩ (.slice A n c)).setCell ⟨g,i * 4 + 2,none⟩ (.bool nb)).setCell ⟨g,i * 4 + 3,none⟩ (.slice B m d)
section
variable {w : World} {g i : Nat} {na : Bool} {A : Option Addr} {n c : Nat} {nb : Bool} {B : Option Addr} {m d : Nat}
theorem Zm2 {A' : Option Addr} {n' c' : Nat} {l : List Nat} {t : TypeId} {cs : Array Value} (h : Lim w A' n' c' l) (hb : Blk w g t cs) (hcs : NoLimb cs) : Lim (Zh2 w g i na A n c nb B m d) A' n' c' l:=by
 have h1:=hb.set_ (i * 4) (.bool na);have l1:=Zgd hcs (i * 4) (v:=.bool na) (fun x=>by simp);have h2:=h1.set_ (i * 4 + 1) (.slice A n c);have l2:=Zgd l1 (i * 4 + 1) (v:=.slice A n c) (fun x=>by simp);have h3:=h2.set_ (i * 4 + 2) (.bool nb);have l3:=Zgd l2 (i * 4 + 2) (v:=.bool nb) (fun x=>by simp);exact (((h.set_box hb hcs _ _).set_box h1 l1 _ _).set_box h2 l2 _ _).set_box h3 l3 _ _
theorem Zg3 {na' : Bool} {A' : Option Addr} {n' c' : Nat} {nb' : Bool} {B' : Option Addr} {m' d' : Nat} {r : Rat} {t : TypeId} {cs : Array Value} (h : Fr w na' A' n' c' nb' B' m' d' r) (hb : Blk w g t cs) (hcs : NoLimb cs) : Fr (Zh2 w g i na A n c nb B m d) na' A' n' c' nb' B' m' d' r:=
 ⟨⟨h.1.1,h.1.2.1,Zm2 h.1.2.2 hb hcs⟩,⟨h.2.1,h.2.2.1,Zm2 h.2.2.2 hb hcs⟩⟩
theorem Znz {g' : Nat} {t : TypeId} {cs : Array Value} (h : Blk w g' t cs) (hg : g' ≠ g) : Blk (Zh2 w g i na A n c nb B m d) g' t cs:=(((h.far hg _).far hg _).far hg _).far hg _
theorem Zkx {G : Nat -> Prop} {w0 : World} (h : Kept G w0 w) (hg : G g \/ w0.heap.size <= g) : Kept G w0 (Zh2 w g i na A n c nb B m d):=
 (((h.set_ (p:=⟨g,i * 4,none⟩) hg _).set_ (p:=⟨g,i * 4 + 1,none⟩) hg _).set_ (p:=⟨g,i * 4 + 2,none⟩) hg _).set_ (p:=⟨g,i * 4 + 3,none⟩) hg _
end
def FRaw (t : TypeId) (w : World) (g n : Nat) : Prop:=∃ es : List FE,Blk w g t (Z3 es) /\ n <= es.length
def FOwn (t : TypeId) (w : World) (g : Nat) (qs : List Rat) : Prop:=∃ es zs : List FE,Blk w g t (Z3 (es ++ zs)) /\ (∀ e ∈ es,e.in_ w) /\ es.map FE.q = qs
section
variable {t : TypeId} {w w' : World} {g : Nat} {qs : List Rat}
theorem FRaw.lt {n : Nat} (h : FRaw t w g n) : g < w.heap.size:=by obtain ⟨es,h1,h2⟩:=h;exact h1.lt
theorem FRaw.box {n : Nat} (h : FRaw t w g n) : ∃ t cs,Blk w g t cs /\ NoLimb cs:=by obtain ⟨es,h1,h2⟩:=h;exact ⟨t,_,h1,Zbo es⟩
theorem FRaw.cells {n i : Nat} (h : FRaw t w g n) (hi : i < n) : ∃ na A k c nb B m d,w.cell? ⟨g,i * 4,none⟩ = some (.bool na) /\ w.cell? ⟨g,i * 4 + 1,none⟩ = some (.slice A k c) /\ w.cell? ⟨g,i * 4 + 2,none⟩ = some (.bool nb) /\ w.cell? ⟨g,i * 4 + 3,none⟩ = some (.slice B m d):=by
 obtain ⟨es,h1,hn⟩:=h;have hc:=Zc4 (List.getElem?_eq_getElem (show i < es.length by omega));exact ⟨_,_,_,_,_,_,_,_,by rw [h1.cell];exact hc.1,by rw [h1.cell];exact hc.2.1,by rw [h1.cell];exact hc.2.2.1,by rw [h1.cell];exact hc.2.2.2⟩
theorem FRaw.frozen {n : Nat} (h : FRaw t w g n) (i : Nat) : w.frozen? ⟨g,i,none⟩ = false:=by obtain ⟨es,h1,-⟩:=h;exact h1.frozen i
theorem FOwn.raw (h : FOwn t w g qs) : FRaw t w g qs.length:=by obtain ⟨es,zs,h1,h2,rfl⟩:=h;exact ⟨es ++ zs,h1,by simp⟩
theorem FOwn.below (h : FOwn t w g qs) (hb : Below w.heap.size w w') : FOwn t w' g qs:=by
 obtain ⟨es,zs,h1,h2,h3⟩:=h;exact ⟨es,zs,Zb hb h1,fun e he=>(h2 e he).below hb,h3⟩
theorem FOwn.lt (h : FOwn t w g qs) : g < w.heap.size:=h.raw.lt
theorem FOwn.box (h : FOwn t w g qs) : ∃ t cs,Blk w g t cs /\ NoLimb cs:=h.raw.box
theorem FOwn.frozen (h : FOwn t w g qs) (i : Nat) : w.frozen? ⟨g,i,none⟩ = false:=h.raw.frozen i
theorem FOwn.at_ (h : FOwn t w g qs) {i : Nat} (hi : i < qs.length) : ∃ na A k c nb B m d,w.cell? ⟨g,i * 4,none⟩ = some (.bool na) /\ w.cell? ⟨g,i * 4 + 1,none⟩ = some (.slice A k c) /\ w.cell? ⟨g,i * 4 + 2,none⟩ = some (.bool nb) /\ w.cell? ⟨g,i * 4 + 3,none⟩ = some (.slice B m d) /\ Fr w na A k c nb B m d (qs[i]?.getD 0):=by
 obtain ⟨es,zs,h1,h2,rfl⟩:=h
 have hl : i < es.length:=by simpa using hi
 have he:=List.getElem?_eq_getElem hl;have hc:=Zc4 (es:=es ++ zs) (i:=i) (e:=es[i]) (by rw [List.getElem?_append_left hl];exact he);refine ⟨_,_,_,_,_,_,_,_,by rw [h1.cell];exact hc.1,by rw [h1.cell];exact hc.2.1,by rw [h1.cell];exact hc.2.2.1,by rw [h1.cell];exact hc.2.2.2,?_⟩;rw [List.getElem?_map,he];exact h2 _ (List.getElem_mem hl)
theorem FOwn.set_ (h : FOwn t w g qs) {i : Nat} (hi : i < qs.length) {na : Bool} {A : Option Addr} {k c : Nat} {nb : Bool} {B : Option Addr} {m d : Nat} {r : Rat} (hr : Fr w na A k c nb B m d r) : FOwn t (Zh2 w g i na A k c nb B m d) g (qs.set i r):=by
 obtain ⟨es,zs,h1,h2,rfl⟩:=h
 have hl : i < es.length:=by simpa using hi
 have h3:=(((h1.set_ (i * 4) (.bool na)).set_ (i * 4 + 1) (.slice A k c)).set_ (i * 4 + 2) (.bool nb)).set_ (i * 4 + 3) (.slice B m d);have hs:=Zhq (es:=es ++ zs) (i:=i) ⟨na,A,k,c,nb,B,m,d,r⟩ (by rw [List.length_append];omega);dsimp only at hs;rw [hs,List.set_append_left _ _ hl] at h3;refine ⟨_,zs,h3,fun e he=>?_,by rw [List.map_set]⟩
 rcases List.mem_or_eq_of_mem_set he with he | rfl
 ·exact Zg3 (h2 e he) h1 (Zbo _)
 ·exact Zg3 hr h1 (Zbo _)
theorem FOwn.other {g' i : Nat} {na : Bool} {A : Option Addr} {k c : Nat} {nb : Bool} {B : Option Addr} {m d : Nat} (h : FOwn t w g qs) (hne : g ≠ g') (hb : ∃ t cs,Blk w g' t cs /\ NoLimb cs) : FOwn t (Zh2 w g' i na A k c nb B m d) g qs:=by
 obtain ⟨es,zs,h1,h2,h3⟩:=h;obtain ⟨t',cs,hb,hcs⟩:=hb;exact ⟨es,zs,Znz h1 hne,fun e he=>Zg3 (h2 e he) hb hcs,h3⟩
theorem OwnF.fown {base : Nat} {v : Value} (h : OwnF t w base v qs) : (v = .slice none 0 0 /\ qs = []) \/ ∃ g c,v = .slice (some ⟨g,0,none⟩) qs.length c /\ base <= g /\ qs.length <= c /\ c <= maxLen /\ FOwn t w g qs:=by
 obtain ⟨es,h1,h2,rfl⟩:=h
 rcases h1 with ⟨rfl,rfl⟩ | ⟨g,sp,rfl,h4,h5,h6⟩
 ·exact .inl ⟨rfl,rfl⟩
 ·exact .inr ⟨g,_,by rw [List.length_map],h4,by rw [List.length_map];omega,h5,es,List.replicate sp Zag,h6,h2,rfl⟩
end
def Zdi : Nat -> (Nat -> Rat) -> Rat
 | 0,_=>0
 | n + 1,f=>Zdi n f + f n
def Zbi (i a : Nat) : Nat:=if a < i then a else a + 1
def sgnQ (i : Nat) : Rat:=if i % 2 = 0 then 1 else -1
def Zck : Nat -> (Nat -> Nat -> Rat) -> Rat
 | 0,_=>1
 | n + 1,M=>Zdi (n + 1) fun i=>sgnQ i * M i 0 * Zck n (fun a b=>M (Zbi i a) (b + 1))
theorem Ziy {n : Nat} {f g : Nat -> Rat} (h : ∀ i,i < n -> f i = g i) : Zdi n f = Zdi n g:=by
 induction n with
 | zero=>rfl
 | succ n ih=>simp only [Zdi];rw [ih (fun i hi=>h i (by omega)),h n (by omega)]
theorem Zsm {n : Nat} (f g : Nat -> Rat) (x y : Rat) : Zdi n (fun i=>x * f i + y * g i) = x * Zdi n f + y * Zdi n g:=by
 induction n with
 | zero=>simp only [Zdi];grind
 | succ n ih=>simp only [Zdi];rw [ih];grind
theorem Zrn {n : Nat} {f : Nat -> Rat} (h : ∀ i,i < n -> f i = 0) : Zdi n f = 0:=by
 induction n with
 | zero=>rfl
 | succ n ih=>simp only [Zdi];rw [ih (fun i hi=>h i (by omega)),h n (by omega)];grind
theorem Znq {n : Nat} {f : Nat -> Rat} (k : Nat) (hk : k < n) (h : ∀ i,i < n -> i ≠ k -> f i = 0) : Zdi n f = f k:=by
 induction n with
 | zero=>omega
 | succ n ih =>
  simp only [Zdi]
  by_cases hn : k = n
  ·subst hn
   rw [Zrn (fun i hi=>h i (by omega) (by omega))];grind
  ·rw [ih (by omega) (fun i hi=>h i (by omega)),h n (by omega) (by omega)];grind
theorem Ztm {n : Nat} {f : Nat -> Rat} (k : Nat) (hk : k + 1 < n) (h : ∀ i,i < n -> i ≠ k -> i ≠ k + 1 -> f i = 0) : Zdi n f = f k + f (k + 1):=by
 induction n with
 | zero=>omega
 | succ n ih =>
  simp only [Zdi]
  by_cases hn : k + 1 = n
  ·subst hn
   rw [Znq k (by omega) (fun i hi h2=>h i (by omega) h2 (by omega))]
  ·rw [ih (by omega) (fun i hi=>h i (by omega)),h n (by omega) (by omega) (by omega)];grind
theorem Znf {i a n : Nat} (ha : a < n) : Zbi i a < n + 1:=by unfold Zbi;split <;> omega
theorem Zso (i a : Nat) : Zbi i a ≠ i:=by unfold Zbi;split <;> omega
theorem Zgm {i k : Nat} (h : k ≠ i) : Zbi i (if k < i then k else k - 1) = k:=by
 unfold Zbi
 by_cases h1 : k < i
 ·rw [if_pos h1,if_pos h1]
 ·rw [if_neg h1,if_neg (by omega)];omega
theorem Zri {i a b : Nat} (h : Zbi i a = Zbi i b) : a = b:=by unfold Zbi at h;split at h <;> split at h <;> omega
theorem Zeq {n : Nat} {M N : Nat -> Nat -> Rat} (h : ∀ a b,a < n -> b < n -> M a b = N a b) : Zck n M = Zck n N:=by
 induction n generalizing M N with
 | zero=>rfl
 | succ n ih =>
  simp only [Zck]
  refine Ziy fun i hi=>?_
  rw [h i 0 hi (by omega),ih (fun a b ha hb=>h _ _ (Znf ha) (by omega))]
def Zbu (M : Nat -> Nat -> Rat) (k : Nat) (r : Nat -> Rat) : Nat -> Nat -> Rat:=fun a b=>if a = k then r b else M a b
theorem Zdu {M : Nat -> Nat -> Rat} {k i : Nat} {r : Nat -> Rat} (h : k ≠ i) :
    (fun a b=>Zbu M k r (Zbi i a) (b + 1)) = Zbu (fun a b=>M (Zbi i a) (b + 1)) (if k < i then k else k - 1) (fun b=>r (b + 1)):=by
 funext a b
 unfold Zbu
 by_cases ha : a = (if k < i then k else k - 1)
 ·rw [if_pos ha,ha,Zgm h,if_pos rfl]
 ·rw [if_neg ha,if_neg]
  intro e;exact ha (Zri (i:=i) (by rw [e,Zgm h]))
theorem Zdv {M : Nat -> Nat -> Rat} {k : Nat} {r : Nat -> Rat} : (fun a b=>Zbu M k r (Zbi k a) (b + 1)) = (fun a b=>M (Zbi k a) (b + 1)):=by
 funext a b
 unfold Zbu;rw [if_neg (Zso k a)]
theorem Zmk {n : Nat} (M : Nat -> Nat -> Rat) {k : Nat} (hk : k < n) (r s : Nat -> Rat) (x y : Rat) :
    Zck n (Zbu M k (fun b=>x * r b + y * s b)) = x * Zck n (Zbu M k r) + y * Zck n (Zbu M k s):=by
 induction n generalizing M k r s with
 | zero=>omega
 | succ n ih =>
  simp only [Zck];rw [<- Zsm]
  refine Ziy fun i hi=>?_
  by_cases h : k = i
  ·subst h
   rw [Zdv,Zdv,Zdv];simp only [Zbu,if_true]
   grind
  ·rw [Zdu h,Zdu h,Zdu h]
   rw [ih (fun a b=>M (Zbi i a) (b + 1)) (k:=if k < i then k else k - 1) (by split <;> omega) (fun b=>r (b + 1)) (fun b=>s (b + 1))];simp only [Zbu,if_neg (show ¬ i = k from fun e=>h e.symm)]
   grind
theorem Zq1 (i : Nat) : sgnQ (i + 1) = - sgnQ i:=by
 unfold sgnQ
 rcases Nat.mod_two_eq_zero_or_one i with h | h
 ·rw [if_pos h,if_neg (by omega)]
 ·rw [if_neg (by omega : ¬ i % 2 = 0),if_pos (by omega)];grind
theorem Znw {n : Nat} {M : Nat -> Nat -> Rat} {k : Nat} (hk : k + 1 < n) (h : ∀ b,M (k + 1) b = M k b) : Zck n M = 0:=by
 induction n generalizing M k with
 | zero=>omega
 | succ n ih =>
  simp only [Zck];rw [Ztm k hk]
  ·have hm : (fun a b=>M (Zbi k a) (b + 1)) = (fun a b=>M (Zbi (k + 1) a) (b + 1)):=by
     funext a b
     by_cases ha : a = k
     ·subst ha
      simp only [Zbi,if_neg (Nat.lt_irrefl a),if_pos (Nat.lt_succ_self a)];exact h _
     ·have : Zbi k a = Zbi (k + 1) a:=by unfold Zbi;split <;> split <;> omega
      rw [this]
   rw [hm,h 0,Zq1];grind
  ·intro i hi h1 h2
   rw [ih (M:=fun a b=>M (Zbi i a) (b + 1)) (k:=if k < i then k else k - 1)]
   ·grind
   ·split <;> omega
   ·intro b
    have e1 : Zbi i (if k < i then k else k - 1) = k:=Zgm (Ne.symm h1)
    have e2 : Zbi i ((if k < i then k else k - 1) + 1) = k + 1:=by unfold Zbi;split <;> split <;> omega
    rw [e1,e2];exact h _
theorem Zhh (M : Nat -> Nat -> Rat) (k : Nat) : Zbu M k (M k) = M:=by
 funext a b;unfold Zbu;split
 ·rename_i h;rw [h]
 ·rfl
theorem Zdb (M : Nat -> Nat -> Rat) {k l : Nat} (h : k ≠ l) (r s : Nat -> Rat) : Zbu (Zbu M k r) l s = Zbu (Zbu M l s) k r:=by
 funext a b;unfold Zbu
 by_cases h1 : a = k
 ·subst h1;simp [h]
 ·simp [h1]
theorem Zjj {n : Nat} (M : Nat -> Nat -> Rat) {k : Nat} (hk : k < n) (r s : Nat -> Rat) :
    Zck n (Zbu M k (fun b=>r b + s b)) = Zck n (Zbu M k r) + Zck n (Zbu M k s):=by
 have:=Zmk M hk r s 1 1;rw [show (fun b=>r b + s b) = (fun b=>1 * r b + 1 * s b) by funext b;grind,this];grind
theorem Zly {n : Nat} {k l : Nat} (hk : k < n) (hl : l < n) (hne : k ≠ l) (hz : ∀ (M : Nat -> Nat -> Rat),(∀ b,M k b = M l b) -> Zck n M = 0) (M : Nat -> Nat -> Rat) (r s : Nat -> Rat) :
    Zck n (Zbu (Zbu M k r) l s) = - Zck n (Zbu (Zbu M k s) l r):=by
 have h:=hz (Zbu (Zbu M k (fun b=>r b + s b)) l (fun b=>r b + s b)) (fun b=>by simp [Zbu,hne]);have h1:=hz (Zbu (Zbu M k r) l r) (fun b=>by simp [Zbu,hne]);have h2:=hz (Zbu (Zbu M k s) l s) (fun b=>by simp [Zbu,hne]);rw [Zjj _ hl,Zdb _ hne,Zdb _ hne,Zjj _ hk,Zjj _ hk,<- Zdb _ hne,<- Zdb _ hne,<- Zdb _ hne,<- Zdb _ hne,h1,h2] at h
 grind
theorem Zhx {n : Nat} : ∀ (d : Nat) (M : Nat -> Nat -> Rat) (k : Nat),k + d + 1 < n -> (∀ b,M k b = M (k + d + 1) b) -> Zck n M = 0:=by
 intro d
 induction d with
 | zero=>intro M k hk h;exact Znw hk (fun b=>(h b).symm)
 | succ d ih =>
  intro M k hk h;have h1:=Zly (n:=n) (k:=k + d + 1) (l:=k + d + 2) (by omega) (by omega) (by omega) (fun M h=>Znw (k:=k + d + 1) (by omega) (fun b=>(h b).symm)) M (M (k + d + 1)) (M (k + d + 2));rw [Zhh,Zhh] at h1;rw [h1,ih _ k (by omega)]
  ·grind
  ·intro b
   have:=h b;rw [show k + (d + 1) + 1 = k + d + 2 by omega] at this;simp only [Zbu];rw [if_neg (by omega),if_neg (by omega),if_neg (by omega)]
   simpa using this
theorem Zst {n : Nat} {M : Nat -> Nat -> Rat} {k l : Nat} (hk : k < n) (hl : l < n) (hne : k ≠ l) (h : ∀ b,M k b = M l b) : Zck n M = 0:=by
 rcases Nat.lt_or_gt_of_ne hne with h1 | h1
 ·exact Zhx (l - k - 1) M k (by omega) (fun b=>by rw [show k + (l - k - 1) + 1 = l by omega];exact h b)
 ·exact Zhx (k - l - 1) M l (by omega) (fun b=>by rw [show l + (k - l - 1) + 1 = k by omega];exact (h b).symm)
theorem Zmt {n : Nat} (M : Nat -> Nat -> Rat) {k l : Nat} (hk : k < n) (hl : l < n) (hne : k ≠ l) (c : Rat) : Zck n (Zbu M k (fun b=>M k b + c * M l b)) = Zck n M:=by
 have h:=Zmk M hk (M k) (M l) 1 c
 rw [show (fun b=>M k b + c * M l b) = (fun b=>1 * M k b + c * M l b) by funext b;grind,h,Zhh,
  Zst (M:=Zbu M k (M l)) hk hl hne (fun b=>by simp [Zbu,Ne.symm hne])]
 grind
theorem Zpa {n : Nat} (M : Nat -> Nat -> Rat) {l : Nat} (hl : l < n) (c : Nat -> Rat) : Zck n (fun a b=>if a = l then M a b else M a b + c a * M l b) = Zck n M:=by
 have key : ∀ m,m <= n -> Zck n (fun a b=>if a = l then M a b else if a < m then M a b + c a * M l b else M a b) = Zck n M:=by
  intro m
  induction m with
  | zero=>intro _;congr 1;funext a b;split <;> rfl
  | succ m ih =>
   intro hm;have h0:=ih (by omega)
   by_cases hml : m = l
   ·rw [<- h0];congr 1;funext a b
    by_cases ha : a = l
    ·simp [ha]
    ·rw [if_neg ha,if_neg ha]
     by_cases h1 : a < m
     ·rw [if_pos h1,if_pos (by omega)]
     ·rw [if_neg h1,if_neg (by omega)]
   ·have h1:=Zmt (n:=n) (fun a b=>if a = l then M a b else if a < m then M a b + c a * M l b else M a b) (k:=m) (l:=l) (by omega) hl hml (c m)
    rw [h0] at h1;rw [<- h1];congr 1;funext a b;unfold Zbu
    by_cases ha : a = m
    ·subst ha;simp [hml]
    ·rw [if_neg ha]
     by_cases hal : a = l
     ·simp [hal]
     ·rw [if_neg hal]
      by_cases h1 : a < m
      ·rw [if_pos (by omega)];simp [hal,h1]
      ·rw [if_neg (by omega)];simp [hal,h1]
 rw [<- key n (Nat.le_refl _)]
 exact Zeq fun a b ha hb=>by rw [if_pos ha]
def Zde : Nat -> (Nat -> Rat) -> Rat
 | 0,_=>1
 | n + 1,f=>Zde n f * f n
theorem Zhv {n : Nat} {f g : Nat -> Rat} (h : ∀ i,i < n -> f i = g i) : Zde n f = Zde n g:=by
 induction n with
 | zero=>rfl
 | succ n ih=>simp only [Zde];rw [ih (fun i hi=>h i (by omega)),h n (by omega)]
theorem Zmx {n : Nat} (f : Nat -> Rat) : Zde (n + 1) f = f 0 * Zde n (fun i=>f (i + 1)):=by
 induction n generalizing f with
 | zero=>simp only [Zde];grind
 | succ n ih=>rw [Zde,ih,Zde];grind
theorem Ztq {n : Nat} {M : Nat -> Nat -> Rat} (h : ∀ a b,a < n -> b < a -> M a b = 0) : Zck n M = Zde n (fun i=>M i i):=by
 induction n generalizing M with
 | zero=>rfl
 | succ n ih =>
  simp only [Zck];rw [Znq 0 (by omega)]
  ·rw [Zmx,ih]
   ·have : sgnQ 0 = 1:=rfl
    rw [this,Zhv (g:=fun i=>M (i + 1) (i + 1)) (fun i hi=>by simp only [Zbi];rw [if_neg (by omega)])];grind
   ·intro a b ha hb
    simp only [Zbi];rw [if_neg (by omega)];exact h _ _ (by omega) (by omega)
  ·intro i hi h0
   rw [h i 0 hi (by omega)];grind
end Go.Proofs.YtaioanjcjijckaaGreat
