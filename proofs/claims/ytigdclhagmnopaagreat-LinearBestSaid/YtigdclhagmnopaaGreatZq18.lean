/- Rows of slices of the call's own. Determinants by -/
import Derived.Test.YtigdclhagmnopaaGreatZq17
set_option linter.unusedSimpArgs false
set_option linter.unusedVariables false
namespace Go.Proofs.YtigdclhagmnopaaGreat
open Go.RowKit
structure RS where
 A:Option Addr
 n:Nat
 c:Nat
def RS.val (r:RS):Value:=.slice r.A r.n r.c
def Zar:List RS->List Value
 | []=>[]
 | e :: l=>.slice e.A e.n e.c :: Zar l
def Z7 (es:List RS):Array Value:=(Zar es).toArray
def Zay:RS:=⟨none,0,0⟩
theorem Zba (es:List RS):(Zar es).length=es.length * 1:=by
 induction es with
 | nil=>rfl
 | cons e l ih=>simp only [Zar,List.length_cons,ih];omega
theorem Zce (es:List RS):Zar es=es.map RS.val:=by
 induction es with
 | nil=>rfl
 | cons e l ih=>simp only [Zar,List.map_cons,ih];rfl
theorem Zsg {es:List RS} {i:Nat} {e:RS} (h:es[i]?=some e):(Zar es)[i]?=some (.slice e.A e.n e.c):=by
 rw [Zce,List.getElem?_map,h];rfl
theorem Zbw {es:List RS} {i:Nat} {e:RS} (h:es[i]?=some e):(Z7 es)[i]?=some (.slice e.A e.n e.c):=by simpa [Z7] using Zsg h
theorem Zmp (es:List RS):∀ (i x:Nat),(Zar es)[i]? ≠ some (limb x):=by
 intro i x;rw [Zce,List.getElem?_map]
 cases es[i]? with
 | none=>simp
 | some e=>simp [RS.val]
theorem Zbb (es:List RS):NoLimb (Z7 es):=fun i x=>by simpa [Z7] using Zmp es i x
theorem Zcl (es fs:List RS):Zar (es ++ fs)=Zar es ++ Zar fs:=by simp only [Zce,List.map_append]
theorem Zsj (fs:List RS):∀ u ∈ Zar fs,u.oneCell'=true:=by
 intro u h;rw [Zce] at h;obtain ⟨r,-,rfl⟩:=List.mem_map.1 h
 rfl
theorem Zdb {es:List RS} {i:Nat} (e:RS):(Z7 es).setIfInBounds i (.slice e.A e.n e.c)=Z7 (es.set i e):=by
 unfold Z7;rw [Zce,Zce,List.map_set]
 simp [RS.val]
theorem Zh5 (k:Nat):(Builtin.zeroCells #[.slice none 0 0] k).toList=Zar (List.replicate k Zay):=by
 rw [Zce];unfold Builtin.zeroCells
 apply List.ext_getElem?
 intro i
 by_cases h:i < k
 ·simp [h,Zay,RS.val,List.getElem?_replicate,Nat.mod_one]
 ·simp [h,List.getElem?_replicate]
def RowS (t:TypeId) (w:World) (base:Nat) (v:Value) (es:List RS):Prop:=
 (v=.slice none 0 0/\es=[]) \/ ∃ g sp,v=.slice (some ⟨g,0,none⟩) es.length (es.length+sp)/\base <= g/\es.length+sp <= maxLen/\Blk w g t (Z7 (es ++ List.replicate sp Zay))
section
variable {t:TypeId} {w w':World} {base:Nat} {v:Value} {es:List RS}
theorem RowS.own (h:RowS t w base v es):w.ownsRow base t 1 v es.length (Zar es):=by
 refine ⟨Zba es,?_⟩
 rcases h with ⟨h1,rfl⟩ | ⟨g,sp,h1,h2,h3,h4⟩
 ·exact .inl ⟨h1,rfl⟩
 ·refine .inr ⟨g,_,_,h1,h2,h4,Nat.le_add_right _ _,h3,?_,?_⟩
  ·simp [Z7,Zba]
  ·simp only [Z7]
   rw [Zcl,<- Zba es];exact List.take_left
theorem RowS.row_ge (h:RowS t w base v es):∀ k,v.ownBlock=some k->base <= k:=fun k hk=>(h.own.lt k hk).1
theorem RowS.kept (h:RowS t w base v es) (hb:Below w.heap.size w w'):RowS t w' base v es:=by
 rcases h with h | ⟨g,sp,h1,h2,h3,h4⟩
 ·exact .inl h
 ·exact .inr ⟨g,sp,h1,h2,h3,Zc hb h4⟩
theorem RowS.keep (h:RowS t w base v es) (hg:w.grownBy w' v.ownBlock) {A:Option Addr} {n c:Nat} {l:List Nat} (hL:Lim w A n c l):Lim w' A n c l:=by
 refine ⟨hL.1,hL.2.1,hL.2.2.1,hL.2.2.2.1,fun hn=>?_⟩;obtain ⟨b,o,e,hc⟩:=hL.2.2.2.2 hn;refine ⟨b,o,e,fun k hk=>?_⟩;rw [<- hc k hk];refine World.cell?_of_block (hg.block b (Zp (hc k hk)) (fun e'=>?_))
 rcases h with ⟨rfl,_⟩ | ⟨g,sp,rfl,_,_,h4⟩
 ·cases e'
 ·have hbg:b=g:=by simpa [Value.ownBlock] using e'
  subst hbg;have h1:=hc k hk;rw [h4.cell] at h1;exact Zbb _ _ _ h1
end
section
variable {P:Program} (w:World)
theorem Zlm (base:Nat) (t ty e:TypeId) (i:TypeInfo) (ht:P.underlying t=some (.slice e)) (hi:P.info? e=some i) (hz:i.zero=some (.slice none 0 0))
    (hs:i.size=1) (hby:i.bytes=24) (v:Value) (es:List RS) (hown:RowS e w base v es)
    (B:Nat) (A:Option Addr) (m c:Nat) (fs:List RS) (hr:Reads w B 1 A m (Zar fs)) (hm:fs.length=m) (h63:es.length+m <= 1000) (hbase:base <= w.heap.size) :
    ∃ v' w',(Builtin.append_ #[t,t] ty #[v,.slice A m c]).run P w=.ok v' w'/\RowS e w' base v' (es ++ fs)/\w.grownBy w' v.ownBlock:=by
 rcases Nat.eq_zero_or_pos m with h0 | h0
 ·subst h0
  obtain rfl:fs=[]:=List.eq_nil_of_length_eq_zero hm;rw [List.append_nil]
  rcases A with _ | ad
  ·exact ⟨v,w,Zb6 w base t ty e i 1 ht hi v _ _ hown.own c,hown,World.grownBy.refl w _⟩
  ·have hf:=run_firstCells_some (P:=P) w i.size 0 ad 0 c [] (by simp) (by simp)
   rcases hown with ⟨rfl,rfl⟩ | ⟨g,sp,rfl,h2,h3,h4⟩
   ·refine ⟨.slice none 0 0,w,?_,.inl ⟨rfl,rfl⟩,World.grownBy.refl w _⟩
    simp [Builtin.append_,run_underlying ht,sizeOf,typeInfo,hi,Builtin.lenOf,Builtin.firstCells,loadCells,loadCellsFrom]
   ·refine ⟨_,w,?_,.inr ⟨g,sp,rfl,h2,h3,h4⟩,World.grownBy.refl w _⟩
    simp [Builtin.append_,run_underlying ht,sizeOf,typeInfo,hi,Builtin.lenOf,Builtin.firstCells,loadCells,loadCellsFrom,storeCells]
 ·obtain ⟨ad,rfl,_,hc⟩:=hr.2 h0
  have hl:(Zar fs).length=m * i.size:=by rw [Zba,hm,hs]
  have hle:es.length * i.size=(Zar es).length:=by rw [Zba,hs]
  rcases hown with ⟨rfl,rfl⟩ | ⟨g,sp,rfl,h2,h3,h4⟩
  ·have hrun:=run_append_nil (P:=P) w t ty e i _ ht hi hz ad m c (Zar fs) hl hc h0 (by omega) (by rw [hby];omega)
   have hge:=grownCap_ge w m 0 e;have hcm:=grownCap_le_maxLen w m 0 e (by unfold maxLen;simp only [List.length_nil] at h63;omega);refine ⟨_,_,hrun,.inr ⟨w.heap.size,grownCap w m 0 e - m,?_,hbase,?_,?_⟩,⟨rfl,rfl,rfl,by simp,fun k hk _=>Below.heap_alloc w.drew _ k hk⟩⟩
   ·rw [List.nil_append,hm,Nat.add_sub_cancel' hge]
   ·rw [List.nil_append,hm,Nat.add_sub_cancel' hge];exact hcm
   ·have:=heap_alloc_new w.drew (.cells ((Zar fs).toArray ++ Builtin.zeroCells (Value.slice none 0 0).cells (grownCap w m 0 e - m)) e)
    unfold Blk;refine this.trans ?_
    congr 1
    have hx:(Zar fs).toArray ++ Builtin.zeroCells (Value.slice none 0 0).cells (grownCap w m 0 e - m)=Z7 ([] ++ fs ++ List.replicate (grownCap w m 0 e - m) Zay):=by
     apply Array.toList_inj.1
     rw [Array.toList_append,show (Value.slice none 0 0).cells=#[.slice none 0 0] from rfl,Zh5]
     simp [Z7,Zcl]
    rw [hx]
  ·by_cases hroom:m <= sp
   ·have hrun:=run_append_room (P:=P) w t ty e i ht hi g es.length (es.length+sp) _ h4 ad m c (Zar fs) hl hc (Zsj fs) (by omega) (by rw [hle,Zba,Zba];simp [Z7,Zba];omega)
    refine ⟨_,_,hrun,.inr ⟨g,sp - m,?_,h2,?_,?_⟩,⟨rfl,rfl,rfl,by simp [World.setRow],fun k _ hk=>setRow_other w g k _ (fun e'=>hk (by simp [Value.ownBlock,e']))⟩⟩
    ·rw [List.length_append,hm,show es.length+m+(sp - m)=es.length+sp by omega]
    ·rw [List.length_append,hm];omega
    ·refine (setRow_heap w g _ _ e _ h4).trans ?_
     congr 2
     unfold Z7
     congr 1
     rw [hle]
     have hrep:List.replicate sp Zay=List.replicate m Zay ++ List.replicate (sp - m) Zay:=by rw [List.replicate_append_replicate];congr 1;omega
     have hlm:(Zar fs).length=(Zar (List.replicate m Zay)).length:=by rw [Zba,Zba,hm,List.length_replicate]
     simp only [Zcl];rw [List.take_left,hlm,<- List.length_append,hrep,Zcl,<- List.append_assoc (Zar es),List.drop_left,List.append_assoc]
   ·have holds:∀ j u,(Zar es)[j]?=some u->w.cell? ((⟨g,0,none⟩:Addr).add j)=some u:=fun j u hu=>by
      rw [Zh,Nat.zero_add,h4.cell];simp only [Z7,List.getElem?_toArray,Zcl];rw [List.getElem?_append_left (by rw [List.getElem?_eq_some_iff] at hu;exact hu.1)];exact hu
    have hrun:=run_append_grow (P:=P) w t ty e i _ ht hi hz ⟨g,0,none⟩ es.length (es.length+sp) (Zar es) hle.symm holds ad m c (Zar fs) hl hc (by omega) (by omega) (growslice_fits (by omega) (by rw [hby];omega));have hge:=grownCap_ge w (es.length+m) (es.length+sp) e;have hcm:=grownCap_le_maxLen w (es.length+m) (es.length+sp) e (by unfold maxLen;omega);refine ⟨_,_,hrun,.inr ⟨w.heap.size,grownCap w (es.length+m) (es.length+sp) e - (es.length+m),?_,hbase,?_,?_⟩,⟨rfl,rfl,rfl,by simp,fun k hk _=>Below.heap_alloc w.drew _ k hk⟩⟩
    ·rw [List.length_append,hm,Nat.add_sub_cancel' hge]
    ·rw [List.length_append,hm,Nat.add_sub_cancel' hge];exact hcm
    ·have:=heap_alloc_new w.drew (.cells ((Zar es).toArray ++ (Zar fs).toArray ++ Builtin.zeroCells (Value.slice none 0 0).cells (grownCap w (es.length+m) (es.length+sp) e - (es.length+m))) e)
     unfold Blk;refine this.trans ?_
     congr 1
     have hx:(Zar es).toArray ++ (Zar fs).toArray ++ Builtin.zeroCells (Value.slice none 0 0).cells (grownCap w (es.length+m) (es.length+sp) e - (es.length+m))=Z7 (es ++ fs ++ List.replicate (grownCap w (es.length+m) (es.length+sp) e - (es.length+m)) Zay):=by
      apply Array.toList_inj.1
      rw [Array.toList_append,Array.toList_append,show (Value.slice none 0 0).cells=#[.slice none 0 0] from rfl,Zh5]
      simp [Z7,Zcl]
     rw [hx]
end
def sumQ:Nat->(Nat->Rat)->Rat
 | 0,_=>0
 | n+1,f=>sumQ n f+f n
def Za3 (i a:Nat):Nat:=if a < i then a else a+1
def Zfi (i:Nat):Rat:=if i % 2=0 then 1 else -1
def Z1:Nat->(Nat->Nat->Rat)->Rat
 | 0,_=>1
 | n+1,M=>sumQ (n+1) fun i=>Zfi i * M i 0 * Z1 n (fun a b=>M (Za3 i a) (b+1))
theorem Zm {n:Nat} {f g:Nat->Rat} (h:∀ i,i < n->f i=g i):sumQ n f=sumQ n g:=by
 induction n with
 | zero=>rfl
 | succ n ih=>simp only [sumQ];rw [ih (fun i hi=>h i (by omega)),h n (by omega)]
theorem Zep {n:Nat} (f g:Nat->Rat) (x y:Rat):sumQ n (fun i=>x * f i+y * g i)=x * sumQ n f+y * sumQ n g:=by
 induction n with
 | zero=>simp only [sumQ];grind
 | succ n ih=>simp only [sumQ];rw [ih];grind
theorem Zdi {n:Nat} {f:Nat->Rat} (h:∀ i,i < n->f i=0):sumQ n f=0:=by
 induction n with
 | zero=>rfl
 | succ n ih=>simp only [sumQ];rw [ih (fun i hi=>h i (by omega)),h n (by omega)];grind
theorem Zhe {n:Nat} {f:Nat->Rat} (k:Nat) (hk:k < n) (h:∀ i,i < n->i ≠ k->f i=0):sumQ n f=f k:=by
 induction n with
 | zero=>omega
 | succ n ih =>
  simp only [sumQ]
  by_cases hn:k=n
  ·subst hn
   rw [Zdi (fun i hi=>h i (by omega) (by omega))];grind
  ·rw [ih (by omega) (fun i hi=>h i (by omega)),h n (by omega) (by omega)];grind
theorem Zwg {n:Nat} {f:Nat->Rat} (k:Nat) (hk:k+1 < n) (h:∀ i,i < n->i ≠ k->i ≠ k+1->f i=0):sumQ n f=f k+f (k+1):=by
 induction n with
 | zero=>omega
 | succ n ih =>
  simp only [sumQ]
  by_cases hn:k+1=n
  ·subst hn
   rw [Zhe k (by omega) (fun i hi h2=>h i (by omega) h2 (by omega))]
  ·rw [ih (by omega) (fun i hi=>h i (by omega)),h n (by omega) (by omega) (by omega)];grind
theorem Zpk {i a n:Nat} (ha:a < n):Za3 i a < n+1:=by unfold Za3;split <;> omega
theorem Zvu (i a:Nat):Za3 i a ≠ i:=by unfold Za3;split <;> omega
theorem Zij {i k:Nat} (h:k ≠ i):Za3 i (if k < i then k else k - 1)=k:=by
 unfold Za3
 by_cases h1:k < i
 ·rw [if_pos h1,if_pos h1]
 ·rw [if_neg h1,if_neg (by omega)];omega
theorem Zu9 {i a b:Nat} (h:Za3 i a=Za3 i b):a=b:=by unfold Za3 at h;split at h <;> split at h <;> omega
theorem Zau {n:Nat} {M N:Nat->Nat->Rat} (h:∀ a b,a < n->b < n->M a b=N a b):Z1 n M=Z1 n N:=by
 induction n generalizing M N with
 | zero=>rfl
 | succ n ih =>
  simp only [Z1]
  refine Zm fun i hi=>?_
  rw [h i 0 hi (by omega),ih (fun a b ha hb=>h _ _ (Zpk ha) (by omega))]
def Zad (M:Nat->Nat->Rat) (k:Nat) (r:Nat->Rat):Nat->Nat->Rat:=fun a b=>if a=k then r b else M a b
theorem Ze8 {M:Nat->Nat->Rat} {k i:Nat} {r:Nat->Rat} (h:k ≠ i) :
    (fun a b=>Zad M k r (Za3 i a) (b+1))=Zad (fun a b=>M (Za3 i a) (b+1)) (if k < i then k else k - 1) (fun b=>r (b+1)):=by
 funext a b
 unfold Zad
 by_cases ha:a=(if k < i then k else k - 1)
 ·rw [if_pos ha,ha,Zij h,if_pos rfl]
 ·rw [if_neg ha,if_neg]
  intro e;exact ha (Zu9 (i:=i) (by rw [e,Zij h]))
theorem Ze9 {M:Nat->Nat->Rat} {k:Nat} {r:Nat->Rat}:(fun a b=>Zad M k r (Za3 k a) (b+1))=(fun a b=>M (Za3 k a) (b+1)):=by
 funext a b
 unfold Zad;rw [if_neg (Zvu k a)]
theorem Zen {n:Nat} (M:Nat->Nat->Rat) {k:Nat} (hk:k < n) (r s:Nat->Rat) (x y:Rat) :
    Z1 n (Zad M k (fun b=>x * r b+y * s b))=x * Z1 n (Zad M k r)+y * Z1 n (Zad M k s):=by
 induction n generalizing M k r s with
 | zero=>omega
 | succ n ih =>
  simp only [Z1];rw [<- Zep]
  refine Zm fun i hi=>?_
  by_cases h:k=i
  ·subst h
   rw [Ze9,Ze9,Ze9];simp only [Zad,if_true]
   grind
  ·rw [Ze8 h,Ze8 h,Ze8 h]
   rw [ih (fun a b=>M (Za3 i a) (b+1)) (k:=if k < i then k else k - 1) (by split <;> omega) (fun b=>r (b+1)) (fun b=>s (b+1))];simp only [Zad,if_neg (show ¬ i=k from fun e=>h e.symm)]
   grind
theorem Ztv (i:Nat):Zfi (i+1)=- Zfi i:=by
 unfold Zfi
 rcases Nat.mod_two_eq_zero_or_one i with h | h
 ·rw [if_pos h,if_neg (by omega)]
 ·rw [if_neg (by omega:¬ i % 2=0),if_pos (by omega)];grind
theorem Zps {n:Nat} {M:Nat->Nat->Rat} {k:Nat} (hk:k+1 < n) (h:∀ b,M (k+1) b=M k b):Z1 n M=0:=by
 induction n generalizing M k with
 | zero=>omega
 | succ n ih =>
  simp only [Z1];rw [Zwg k hk]
  ·have hm:(fun a b=>M (Za3 k a) (b+1))=(fun a b=>M (Za3 (k+1) a) (b+1)):=by
     funext a b
     by_cases ha:a=k
     ·subst ha
      simp only [Za3,if_neg (Nat.lt_irrefl a),if_pos (Nat.lt_succ_self a)];exact h _
     ·have:Za3 k a=Za3 (k+1) a:=by unfold Za3;split <;> split <;> omega
      rw [this]
   rw [hm,h 0,Ztv];grind
  ·intro i hi h1 h2
   rw [ih (M:=fun a b=>M (Za3 i a) (b+1)) (k:=if k < i then k else k - 1)]
   ·grind
   ·split <;> omega
   ·intro b
    have e1:Za3 i (if k < i then k else k - 1)=k:=Zij (Ne.symm h1)
    have e2:Za3 i ((if k < i then k else k - 1)+1)=k+1:=by unfold Za3;split <;> split <;> omega
    rw [e1,e2];exact h _
theorem Zdc (M:Nat->Nat->Rat) (k:Nat):Zad M k (M k)=M:=by
 funext a b;unfold Zad;split
 ·rename_i h;rw [h]
 ·rfl
theorem Zb3 (M:Nat->Nat->Rat) {k l:Nat} (h:k ≠ l) (r s:Nat->Rat):Zad (Zad M k r) l s=Zad (Zad M l s) k r:=by
 funext a b;unfold Zad
 by_cases h1:a=k
 ·subst h1;simp [h]
 ·simp [h1]
theorem Zlj {n:Nat} (M:Nat->Nat->Rat) {k:Nat} (hk:k < n) (r s:Nat->Rat) :
    Z1 n (Zad M k (fun b=>r b+s b))=Z1 n (Zad M k r)+Z1 n (Zad M k s):=by
 have:=Zen M hk r s 1 1;rw [show (fun b=>r b+s b)=(fun b=>1 * r b+1 * s b) by funext b;grind,this];grind
theorem Zi0 {n:Nat} {k l:Nat} (hk:k < n) (hl:l < n) (hne:k ≠ l) (hz:∀ (M:Nat->Nat->Rat),(∀ b,M k b=M l b)->Z1 n M=0) (M:Nat->Nat->Rat) (r s:Nat->Rat) :
    Z1 n (Zad (Zad M k r) l s)=- Z1 n (Zad (Zad M k s) l r):=by
 have h:=hz (Zad (Zad M k (fun b=>r b+s b)) l (fun b=>r b+s b)) (fun b=>by simp [Zad,hne]);have h1:=hz (Zad (Zad M k r) l r) (fun b=>by simp [Zad,hne]);have h2:=hz (Zad (Zad M k s) l s) (fun b=>by simp [Zad,hne]);rw [Zlj _ hl,Zb3 _ hne,Zb3 _ hne,Zlj _ hk,Zlj _ hk,<- Zb3 _ hne,<- Zb3 _ hne,<- Zb3 _ hne,<- Zb3 _ hne,h1,h2] at h
 grind
theorem Zkl {n:Nat}:∀ (d:Nat) (M:Nat->Nat->Rat) (k:Nat),k+d+1 < n->(∀ b,M k b=M (k+d+1) b)->Z1 n M=0:=by
 intro d
 induction d with
 | zero=>intro M k hk h;exact Zps hk (fun b=>(h b).symm)
 | succ d ih =>
  intro M k hk h;have h1:=Zi0 (n:=n) (k:=k+d+1) (l:=k+d+2) (by omega) (by omega) (by omega) (fun M h=>Zps (k:=k+d+1) (by omega) (fun b=>(h b).symm)) M (M (k+d+1)) (M (k+d+2));rw [Zdc,Zdc] at h1;rw [h1,ih _ k (by omega)]
  ·grind
  ·intro b
   have:=h b;rw [show k+(d+1)+1=k+d+2 by omega] at this;simp only [Zad];rw [if_neg (by omega),if_neg (by omega),if_neg (by omega)]
   simpa using this
theorem Zhb {n:Nat} {M:Nat->Nat->Rat} {k l:Nat} (hk:k < n) (hl:l < n) (hne:k ≠ l) (h:∀ b,M k b=M l b):Z1 n M=0:=by
 rcases Nat.lt_or_gt_of_ne hne with h1 | h1
 ·exact Zkl (l - k - 1) M k (by omega) (fun b=>by rw [show k+(l - k - 1)+1=l by omega];exact h b)
 ·exact Zkl (k - l - 1) M l (by omega) (fun b=>by rw [show l+(k - l - 1)+1=k by omega];exact (h b).symm)
theorem Zuv {n:Nat} (M:Nat->Nat->Rat) {k l:Nat} (hk:k < n) (hl:l < n) (hne:k ≠ l):Z1 n (Zad (Zad M k (M l)) l (M k))=- Z1 n M:=by
 have h:=Zi0 hk hl hne (fun M h=>Zhb hk hl hne h) M (M l) (M k);rw [h]
 congr 1
 rw [Zdc]
 congr 1
 funext a b
 unfold Zad
 split
 ·rename_i h;rw [h]
 ·rfl
theorem Zqc {n:Nat} (M:Nat->Nat->Rat) {k l:Nat} (hk:k < n) (hl:l < n) (hne:k ≠ l) (c:Rat):Z1 n (Zad M k (fun b=>M k b+c * M l b))=Z1 n M:=by
 have h:=Zen M hk (M k) (M l) 1 c
 rw [show (fun b=>M k b+c * M l b)=(fun b=>1 * M k b+c * M l b) by funext b;grind,h,Zdc,
  Zhb (M:=Zad M k (M l)) hk hl hne (fun b=>by simp [Zad,Ne.symm hne])]
 grind
theorem Zl7 {n:Nat} (M:Nat->Nat->Rat) {l:Nat} (hl:l < n) (c:Nat->Rat):Z1 n (fun a b=>if a=l then M a b else M a b+c a * M l b)=Z1 n M:=by
 have key:∀ m,m <= n->Z1 n (fun a b=>if a=l then M a b else if a < m then M a b+c a * M l b else M a b)=Z1 n M:=by
  intro m
  induction m with
  | zero=>intro _;congr 1;funext a b;split <;> rfl
  | succ m ih =>
   intro hm;have h0:=ih (by omega)
   by_cases hml:m=l
   ·rw [<- h0];congr 1;funext a b
    by_cases ha:a=l
    ·simp [ha]
    ·rw [if_neg ha,if_neg ha]
     by_cases h1:a < m
     ·rw [if_pos h1,if_pos (by omega)]
     ·rw [if_neg h1,if_neg (by omega)]
   ·have h1:=Zqc (n:=n) (fun a b=>if a=l then M a b else if a < m then M a b+c a * M l b else M a b) (k:=m) (l:=l) (by omega) hl hml (c m)
    rw [h0] at h1;rw [<- h1];congr 1;funext a b;unfold Zad
    by_cases ha:a=m
    ·subst ha;simp [hml]
    ·rw [if_neg ha]
     by_cases hal:a=l
     ·simp [hal]
     ·rw [if_neg hal]
      by_cases h1:a < m
      ·rw [if_pos (by omega)];simp [hal,h1]
      ·rw [if_neg (by omega)];simp [hal,h1]
 rw [<- key n (Nat.le_refl _)]
 exact Zau fun a b ha hb=>by rw [if_pos ha]
def Zap:Nat->(Nat->Rat)->Rat
 | 0,_=>1
 | n+1,f=>Zap n f * f n
theorem Zch {n:Nat} {f g:Nat->Rat} (h:∀ i,i < n->f i=g i):Zap n f=Zap n g:=by
 induction n with
 | zero=>rfl
 | succ n ih=>simp only [Zap];rw [ih (fun i hi=>h i (by omega)),h n (by omega)]
theorem Zpd {n:Nat} (f:Nat->Rat):Zap (n+1) f=f 0 * Zap n (fun i=>f (i+1)):=by
 induction n generalizing f with
 | zero=>simp only [Zap];grind
 | succ n ih=>rw [Zap,ih,Zap];grind
theorem Zfj {n:Nat} {M:Nat->Nat->Rat} (h:∀ a b,a < n->b < a->M a b=0):Z1 n M=Zap n (fun i=>M i i):=by
 induction n generalizing M with
 | zero=>rfl
 | succ n ih =>
  simp only [Z1];rw [Zhe 0 (by omega)]
  ·rw [Zpd,ih]
   ·have:Zfi 0=1:=rfl
    rw [this,Zch (g:=fun i=>M (i+1) (i+1)) (fun i hi=>by simp only [Za3];rw [if_neg (by omega)])];grind
   ·intro a b ha hb
    simp only [Za3];rw [if_neg (by omega)];exact h _ _ (by omega) (by omega)
  ·intro i hi h0
   rw [h i 0 hi (by omega)];grind
def Zaf (Z:List (List Int)) (i j:Nat):Int:=(Z[i]?.getD [])[j]?.getD 0
def Zn (R:List (List Rat)) (i j:Nat):Rat:=(R[i]?.getD [])[j]?.getD 0
def Zai {α:Type} (l:List α) (i j:Nat):List α:=match l[i]?,l[j]? with
 | some x,some y=>(l.set i y).set j x
 | _,_=>l
def Zpj (p row:List Int) (col:Nat) (piv last:Int):List Int:=(List.range row.length).map fun k=>Int.fdiv (row[k]?.getD 0 * piv - row[col]?.getD 0 * p[k]?.getD 0) last
def Zc9 (Z:List (List Int)) (r col:Nat) (last:Int):List (List Int):=
 (List.range Z.length).map fun i=>if i <= r then Z[i]?.getD [] else Zpj (Z[r]?.getD []) (Z[i]?.getD []) col (Zaf Z r col) last
def rowR (p row:List Rat) (col:Nat):List Rat:=(List.range row.length).map fun k=>if k < col then row[k]?.getD 0 else row[k]?.getD 0 - row[col]?.getD 0 / p[col]?.getD 0 * p[k]?.getD 0
def Zcr (R:List (List Rat)) (r col:Nat):List (List Rat):=(List.range R.length).map fun i=>if i <= r then R[i]?.getD [] else rowR (R[r]?.getD []) (R[i]?.getD []) col
def Zbe (z:Nat->Bool) (n:Nat):Nat->Nat->Nat
 | 0,k=>k
 | f+1,k=>if k < n/\z k=true then Zbe z n f (k+1) else k
def Zae:Nat->Nat->Nat->List (List Int)->Bool->Int->List (List Int) × Nat × Bool × Int
 | 0,_,r,Z,neg,last=>(Z,r,neg,last)
 | f+1,col,r,Z,neg,last =>
  if r=Z.length then (Z,r,neg,last)
  else if Zbe (fun i=>Zaf Z i col == 0) Z.length Z.length r=Z.length then Zae f (col+1) r Z neg last
  else Zae f (col+1) (r+1) (Zc9 (Zai Z (Zbe (fun i=>Zaf Z i col == 0) Z.length Z.length r) r) r col last) (neg != decide (Zbe (fun i=>Zaf Z i col == 0) Z.length Z.length r ≠ r)) (Zaf Z (Zbe (fun i=>Zaf Z i col == 0) Z.length Z.length r) col)
def Zak:Nat->Nat->Nat->List (List Rat)->Bool->List (List Rat) × Nat × Bool
 | 0,_,r,R,neg=>(R,r,neg)
 | f+1,col,r,R,neg =>
  if r=R.length then (R,r,neg)
  else if Zbe (fun i=>Zn R i col == 0) R.length R.length r=R.length then Zak f (col+1) r R neg
  else Zak f (col+1) (r+1) (Zcr (Zai R (Zbe (fun i=>Zn R i col == 0) R.length R.length r) r) r col) (neg != decide (Zbe (fun i=>Zn R i col == 0) R.length R.length r ≠ r))
theorem Zeu {z:Nat->Bool} {n:Nat}:∀ {f k:Nat},n <= k+f->k <= n->k <= Zbe z n f k/\Zbe z n f k <= n/\(∀ i,k <= i->i < Zbe z n f k->z i=true)/\(Zbe z n f k < n->z (Zbe z n f k)=false)
 | 0,k,h,hk=>by
  obtain rfl:k=n:=by omega
  exact ⟨Nat.le_refl _,Nat.le_refl _,fun i h1 h2=>by simp only [Zbe] at h2;omega,fun h=>by simp only [Zbe] at h;omega⟩
 | f+1,k,h,hk=>by
  unfold Zbe
  by_cases hc:k < n/\z k=true
  ·rw [if_pos hc]
   obtain ⟨h1,h2,h3,h4⟩:=Zeu (z:=z) (n:=n) (f:=f) (k:=k+1) (by omega) (by omega);refine ⟨by omega,h2,fun i hi1 hi2=>?_,h4⟩
   by_cases hik:i=k
   ·rw [hik];exact hc.2
   ·exact h3 i (by omega) hi2
  ·rw [if_neg hc]
   refine ⟨Nat.le_refl _,hk,fun i h1 h2=>by omega,fun hkn=>?_⟩
   cases hz:z k with
   | false=>rfl
   | true=>exact absurd ⟨hkn,hz⟩ hc
theorem Zk0 {z:Nat->Bool} {n f k q:Nat} (h:n <= k+f) (hk:k <= q) (hq:q <= n) (h1:∀ i,k <= i->i < q->z i=true) (h2:q < n->z q=false):Zbe z n f k=q:=by
 obtain ⟨a,b,c,d⟩:=Zeu (z:=z) h (Nat.le_trans hk hq)
 rcases Nat.lt_trichotomy (Zbe z n f k) q with h3 | h3 | h3
 ·have:=d (by omega);rw [h1 _ a h3] at this;cases this
 ·exact h3
 ·have:=c q hk h3;rw [h2 (by omega)] at this;cases this
theorem Zpt {y z:Nat->Bool} {n f k:Nat} (h:n <= k+f) (hk:k <= n) (he:∀ i,k <= i->i < n->y i=z i):Zbe y n f k=Zbe z n f k:=by
 obtain ⟨a,b,c,d⟩:=Zeu (z:=z) h hk;exact Zk0 h a b (fun i h1 h2=>by rw [he i h1 (by omega)];exact c i h1 h2) (fun h1=>by rw [he _ a h1];exact d h1)
def BndQ (B:Nat) (q:Rat):Prop:=∃ z:Int,q=(z:Rat)/\z.natAbs <= B
theorem BndQ.add {B C:Nat} {p q:Rat} (h:BndQ B p) (k:BndQ C q):BndQ (B+C) (p+q):=by
 obtain ⟨a,rfl,h1⟩:=h;obtain ⟨b,rfl,h2⟩:=k;exact ⟨a+b,by rw [Rat.intCast_add],by omega⟩
theorem BndQ.mul {B C:Nat} {p q:Rat} (h:BndQ B p) (k:BndQ C q):BndQ (B * C) (p * q):=by
 obtain ⟨a,rfl,h1⟩:=h;obtain ⟨b,rfl,h2⟩:=k;exact ⟨a * b,by rw [Rat.intCast_mul],by rw [Int.natAbs_mul];exact Nat.mul_le_mul h1 h2⟩
theorem BndQ.mono {B C:Nat} {q:Rat} (h:BndQ B q) (hBC:B <= C):BndQ C q:=by obtain ⟨a,h1,h2⟩:=h;exact ⟨a,h1,by omega⟩
def Za1 (B:Nat):Nat->Nat
 | 0=>1
 | n+1=>(n+1) * (B * Za1 B n)
theorem Zq0 {B n:Nat} {f:Nat->Rat} (h:∀ i,i < n->BndQ B (f i)):BndQ (n * B) (sumQ n f):=by
 induction n with
 | zero=>exact ⟨0,rfl,by simp⟩
 | succ n ih=>rw [Nat.succ_mul];exact (ih fun i hi=>h i (by omega)).add (h n (by omega))
theorem Zw0 (i:Nat):BndQ 1 (Zfi i):=by unfold Zfi;split;exact ⟨1,rfl,by decide⟩;exact ⟨-1,rfl,by decide⟩
theorem Zgw {B n:Nat} {M:Nat->Nat->Rat} (h:∀ a b,a < n->b < n->BndQ B (M a b)):BndQ (Za1 B n) (Z1 n M):=by
 induction n generalizing M with
 | zero=>exact ⟨1,rfl,by simp [Za1]⟩
 | succ n ih =>
  simp only [Z1,Za1]
  refine Zq0 fun i hi=>?_
  have:=((Zw0 i).mul (h i 0 hi (by omega))).mul (ih (M:=fun a b=>M (Za3 i a) (b+1)) fun a b ha hb=>h _ _ (Zpk ha) (by omega))
  rwa [Nat.one_mul] at this
theorem Zcw {B m n:Nat} (hB:1 <= B) (h:m <= n):Za1 B m <= Za1 B n:=by
 induction n with
 | zero=>obtain rfl:m=0:=by omega
         exact Nat.le_refl _
 | succ n ih =>
  by_cases hm:m=n+1
  ·rw [hm];exact Nat.le_refl _
  ·refine Nat.le_trans (ih (by omega)) ?_
   simp only [Za1]
   calc Za1 B n=1 * (1 * Za1 B n):=by simp
    _ <= (n+1) * (B * Za1 B n):=Nat.mul_le_mul (by omega) (Nat.mul_le_mul hB (Nat.le_refl _))
def swI (k r i:Nat):Nat:=if i=k then r else if i=r then k else i
theorem Zox (k r i:Nat):swI k r (swI k r i)=i:=by
 unfold swI
 by_cases h1:i=k
 ·subst h1
  by_cases h2:i=r
  ·simp [h2]
  ·simp [Ne.symm h2]
 ·by_cases h2:i=r
  ·subst h2;simp [h1]
  ·simp [h1,h2]
theorem Zdg {α:Type} {l:List α} {k r:Nat} (hk:k < l.length) (hr:r < l.length) (i:Nat):(Zai l k r)[i]?=l[swI k r i]?:=by
 unfold Zai;rw [List.getElem?_eq_getElem hk,List.getElem?_eq_getElem hr];simp only;unfold swI;rw [List.getElem?_set,List.getElem?_set,List.length_set]
 by_cases h1:r=i
 ·subst h1
  rw [if_pos rfl,if_pos hr]
  by_cases h2:r=k
  ·subst h2;simp [hr]
  ·rw [if_neg h2,if_pos rfl,List.getElem?_eq_getElem hk]
 ·rw [if_neg h1]
  by_cases h2:k=i
  ·subst h2;simp [hk,hr]
  ·rw [if_neg h2,if_neg (Ne.symm h2),if_neg (Ne.symm h1)]
theorem Zdz {α:Type} (l:List α) (k r:Nat):(Zai l k r).length=l.length:=by unfold Zai;split <;> simp
theorem Zg8 {k r i n:Nat} (hk:k < n) (hr:r < n) (hi:i < n):swI k r i < n:=by unfold swI;split <;> (try split) <;> omega
structure EIR (B S n m col r:Nat) (R:List (List Rat)) (pc:Nat->Nat) (G:Nat->Nat->Rat) (s:Nat->Rat):Prop where
 len:R.length=n
 row:∀ i,i < n->(R[i]?.getD []).length=m
 pcl:∀ l,l < r->pc l < col
 inc:∀ l l',l < l'->l' < r->pc l < pc l'
 low:∀ i j,r <= i->i < n->j < col->Zn R i j=0
 bef:∀ l j,l < r->j < pc l->Zn R l j=0
 piv:∀ l,l < r->Zn R l (pc l) ≠ 0
 rn:r <= n
 cm:col <= m
 sB:∀ i,i < n->BndQ S (s i)/\s i ≠ 0
 gB:∀ i j,i < n->BndQ B (G i j)
 det:∀ (N:Nat) (f σ:Nat->Nat),(∀ a,a < N->σ a < n)->(∀ a,a < r->σ a=a)->(∀ a,r <= a->r <= σ a)->Z1 N (fun a b=>s (σ a) * Zn R (σ a) (f b))=Z1 N (fun a b=>G (σ a) (f b))
def Zeb (R:List (List Rat)) (pc:Nat->Nat) (s:Nat->Rat) (l:Nat):Rat:=Zap l (fun i=>s i * Zn R i (pc i))
section
variable {B S n m col r:Nat} {R:List (List Rat)} {pc:Nat->Nat} {G:Nat->Nat->Rat} {s:Nat->Rat}
theorem EIR.minor_eq (h:EIR B S n m col r R pc G s) {i:Nat} (hi:i < n) (j:Nat) :
    Zeb R pc s (min i r) * (s i * Zn R i j)=Z1 (min i r+1) (fun a b=>G (if a < min i r then a else i) (if b < min i r then pc b else j)):=by
 obtain ⟨q,hq⟩:∃ q,q=min i r:=⟨_,rfl⟩;rw [<- hq];have hrn:=h.rn
 have hd:=h.det (q+1) (fun b=>if b < q then pc b else j) (fun a=>if a < r then a else if i < r then a else i)
  (fun a ha=>by
   by_cases h1:a < r
   ·rw [if_pos h1];omega
   ·rw [if_neg h1];by_cases h2:i < r
    ·omega
    ·rw [if_neg h2];exact hi) (fun a ha=>by rw [if_pos ha]) (fun a ha=>by
   rw [if_neg (by omega)]
   by_cases h2:i < r
   ·rw [if_pos h2];exact ha
   ·rw [if_neg h2];omega)
 have hσ:∀ a,a < q+1->(if a < r then a else if i < r then a else i)=if a < q then a else i:=by
  intro a ha
  by_cases h1:a < q
  ·rw [if_pos h1,if_pos (by omega)]
  ·rw [if_neg h1]
   by_cases h2:i < r
   ·rw [if_pos (by omega)];omega
   ·rw [if_neg (by omega),if_neg h2]
 rw [<- Zau (M:=fun a b=>G (if a < r then a else if i < r then a else i) (if b < q then pc b else j)) (N:=fun a b=>G (if a < q then a else i) (if b < q then pc b else j)) (fun a b ha hb=>by rw [hσ a ha])];rw [<- hd,Zfj]
 ·rw [Zap]
  unfold Zeb
  congr 1
  ·refine Zch fun a ha=>?_
   rw [if_pos ha,if_pos (by omega)]
  ·rw [if_neg (Nat.lt_irrefl q)]
   have:=hσ q (Nat.lt_succ_self q);rw [if_neg (Nat.lt_irrefl q)] at this;rw [this]
 ·intro a b ha hb
  rw [if_pos (by omega:b < q),hσ a ha]
  by_cases h1:a < q
  ·rw [if_pos h1,h.bef a (pc b) (by omega) (h.inc b a hb (by omega))];grind
  ·rw [if_neg h1]
   by_cases h2:i < r
   ·rw [h.bef i (pc b) h2 (h.inc b i (by omega) h2)];grind
   ·rw [h.low i (pc b) (by omega) hi (h.pcl b (by omega))];grind
theorem EIR.minor (h:EIR B S n m col r R pc G s) {i:Nat} (hi:i < n) (j:Nat):BndQ (Za1 B (min i r+1)) (Zeb R pc s (min i r) * (s i * Zn R i j)):=by
 rw [h.minor_eq hi j]
 refine Zgw fun a b ha hb=>h.gB _ _ ?_
 split <;> omega
theorem EIR.piv_ne (h:EIR B S n m col r R pc G s) {l:Nat} (hl:l <= r):Zeb R pc s l ≠ 0:=by
 induction l with
 | zero=>unfold Zeb Zap;grind
 | succ l ih =>
  have h1:=ih (by omega);have h2:=h.piv l (by omega);have h3:=(h.sB l (by have:=h.rn;omega)).2;unfold Zeb at h1 ⊢;rw [Zap];intro h0
  rcases Rat.mul_eq_zero.1 h0 with h0 | h0
  ·exact h1 h0
  ·rcases Rat.mul_eq_zero.1 h0 with h0 | h0
   ·exact h3 h0
   ·exact h2 h0
theorem EIR.pivL_bnd (h:EIR B S n m col r R pc G s) {l:Nat} (hl:l <= r):BndQ (Za1 B l) (Zeb R pc s l):=by
 cases l with
 | zero=>exact ⟨1,rfl,by simp [Za1]⟩
 | succ l =>
  have h1:=h.minor (i:=l) (by have:=h.rn;omega) (pc l);rw [show min l r=l by omega] at h1;unfold Zeb at h1 ⊢;rw [Zap];exact h1
theorem numQ_le (a b:Int) (h:b ≠ 0):(Rat.divInt a b).num.natAbs <= a.natAbs:=by
 rw [Rat.num_divInt,Int.natAbs_ediv_of_dvd]
 ·refine Nat.le_trans (Nat.div_le_self _ _) ?_
  rw [Int.natAbs_mul]
  rcases Int.lt_or_gt_of_ne h with g | g
  ·rw [Int.sign_eq_neg_one_of_neg g];simp
  ·rw [Int.sign_eq_one_of_pos g];simp
 ·exact Int.dvd_trans (Int.gcd_dvd_right _ _) (Int.dvd_mul_left _ _)
theorem Ze4 {B C:Nat} {p q:Rat} (h:BndQ B (q * p)) (k:BndQ C q) (hq:q ≠ 0):p.num.natAbs <= B/\p.den <= C:=by
 obtain ⟨a,h1,h2⟩:=h;obtain ⟨b,h3,h4⟩:=k
 have hb:b ≠ 0:=by rintro rfl;rw [h3] at hq;exact hq rfl
 have hp:p=Rat.divInt a b:=by
  rw [Rat.divInt_eq_div,<- h1,h3]
  have:(b:Rat) ≠ 0:=by rw [<- h3];exact hq
  grind
 rw [hp]
 constructor
 ·exact Nat.le_trans (numQ_le a b hb) h2
 ·rw [Rat.den_divInt,if_neg hb]
  exact Nat.le_trans (Nat.div_le_self _ _) h4
theorem EIR.bound (h:EIR B S n m col r R pc G s) (hB:1 <= B) {i:Nat} (hi:i < n) (j:Nat):(Zn R i j).num.natAbs <= Za1 B n/\(Zn R i j).den <= Za1 B n * S:=by
 have h1:=h.minor hi j;have h2:=h.pivL_bnd (l:=min i r) (by omega);have h3:=h.sB i hi;have h4:=h.piv_ne (l:=min i r) (by omega);rw [<- Rat.mul_assoc] at h1
 have h5:=Ze4 h1 (h2.mul h3.1) (fun h0=>by
  rcases Rat.mul_eq_zero.1 h0 with h0 | h0
  ·exact h4 h0
  ·exact h3.2 h0)
 have h6:=Zcw hB (show min i r+1 <= n by omega);have h7:=Zcw hB (show min i r <= n by omega);exact ⟨by omega,Nat.le_trans h5.2 (Nat.mul_le_mul h7 (Nat.le_refl _))⟩
theorem Zhr {k r:Nat} (hk:k < R.length) (hr:r < R.length) (i j:Nat):Zn (Zai R k r) i j=Zn R (swI k r i) j:=by
 unfold Zn;rw [Zdg hk hr]
theorem Zlb {k r i:Nat} (hk:r <= k) (hi:i < r):swI k r i=i:=by unfold swI;rw [if_neg (by omega),if_neg (by omega)]
theorem Zo5 {k r i:Nat} (hk:r <= k) (hi:r <= i):r <= swI k r i:=by unfold swI;split <;> (try split) <;> omega
theorem EIR.skip (h:EIR B S n m col r R pc G s) (hc:col < m) (hz:∀ i,r <= i->i < n->Zn R i col=0):EIR B S n m (col+1) r R pc G s:=
 { h with
  pcl:=fun l hl=>by have:=h.pcl l hl;omega
  cm:=hc
  low:=fun i j hi hn hj=>by
   by_cases hjc:j=col
   ·rw [hjc];exact hz i hi hn
   ·exact h.low i j hi hn (by omega) }
theorem EIR.swap (h:EIR B S n m col r R pc G s) {k:Nat} (hk:k < n) (hrk:r <= k):EIR B S n m col r (Zai R k r) pc (fun i j=>G (swI k r i) j) (fun i=>s (swI k r i)):=by
 have hr:r < n:=by omega
 have hl:=h.len;have he:∀ i j,Zn (Zai R k r) i j=Zn R (swI k r i) j:=Zhr (by omega) (by omega)
 have hlt:∀ {i},i < n->swI k r i < n:=fun hi=>Zg8 hk hr hi
 refine ⟨by rw [Zdz];exact hl,fun i hi=>by rw [Zdg (by omega) (by omega)];exact h.row _ (hlt hi),h.pcl,h.inc,fun i j hi hn hj=>?_,fun l j hl' hj=>?_,fun l hl'=>?_,h.rn,h.cm,fun i hi=>h.sB _ (hlt hi),fun i j hi=>h.gB _ _ (hlt hi),fun N f σ h1 h2 h3=>?_⟩
 ·rw [he];exact h.low _ _ (Zo5 hrk hi) (hlt hn) hj
 ·rw [he,Zlb hrk hl'];exact h.bef l j hl' hj
 ·rw [he,Zlb hrk hl'];exact h.piv l hl'
 ·have:=h.det N f (fun a=>swI k r (σ a)) (fun a ha=>hlt (h1 a ha)) (fun a ha=>by rw [h2 a ha,Zlb hrk ha]) (fun a ha=>Zo5 hrk (h3 a ha))
  rw [<- this]
  exact Zau fun a b _ _=>by rw [he]
theorem Zik (hrow:∀ i,i < R.length->(R[i]?.getD []).length=m) (hlow:∀ j,j < col->Zn R r j=0) (i j:Nat) (hi:i < R.length) (hr:r < R.length) :
    Zn (Zcr R r col) i j=if i <= r then Zn R i j else Zn R i j - Zn R i col / Zn R r col * Zn R r j:=by
 unfold Zcr;show ((List.map _ (List.range R.length))[i]?.getD [])[j]?.getD 0=_;rw [List.getElem?_map,List.getElem?_range hi];simp only [Option.map_some,Option.getD_some]
 by_cases h1:i <= r
 ·rw [if_pos h1,if_pos h1];rfl
 ·rw [if_neg h1,if_neg h1]
  unfold rowR;rw [List.getElem?_map]
  by_cases hj:j < (R[i]?.getD []).length
  ·rw [List.getElem?_range hj]
   simp only [Option.map_some,Option.getD_some]
   by_cases hjc:j < col
   ·rw [if_pos hjc,hlow j hjc]
    show Zn R i j=_
    grind
   ·rw [if_neg hjc];rfl
  ·rw [List.getElem?_eq_none (l:=List.range _) (by simpa using hj)]
   simp only [Option.map_none,Option.getD_none]
   have e1:Zn R i j=0:=by unfold Zn;rw [List.getElem?_eq_none (by omega)];rfl
   have e2:Zn R r j=0:=by unfold Zn;rw [List.getElem?_eq_none (by rw [hrow i hi] at hj;rw [hrow r hr];omega)];rfl
   rw [e1,e2];grind
theorem Zk9:(Zcr R r col).length=R.length:=by unfold Zcr;simp
theorem Zlt (i:Nat) (hi:i < R.length):((Zcr R r col)[i]?.getD []).length=(R[i]?.getD []).length:=by
 unfold Zcr;rw [List.getElem?_map,List.getElem?_range hi];simp only [Option.map_some,Option.getD_some]
 split
 ·rfl
 ·unfold rowR;simp
theorem EIR.clear (h:EIR B S n m col r R pc G s) (hc:col < m) (hr:r < n) (hp:Zn R r col ≠ 0):EIR B S n m (col+1) (r+1) (Zcr R r col) (fun l=>if l=r then col else pc l) G s:=by
 have hl:=h.len
 have he:∀ i j,i < n->Zn (Zcr R r col) i j=if i <= r then Zn R i j else Zn R i j - Zn R i col / Zn R r col * Zn R r j:=
  fun i j hi=>Zik (m:=m) (fun i hi=>h.row i (by omega)) (fun j hj=>h.low r j (Nat.le_refl _) hr hj) i j (by omega) (by omega)
 refine ⟨by rw [Zk9];exact hl,fun i hi=>by rw [Zlt i (by omega)];exact h.row i hi,fun l hl'=>?_,fun l l' h1 h2=>?_,fun i j hi hn hj=>?_,fun l j hl' hj=>?_,fun l hl'=>?_,hr,hc,h.sB,h.gB,fun N f σ h1 h2 h3=>?_⟩
 ·split
  ·omega
  ·have:=h.pcl l (by omega);omega
 ·rw [if_neg (by omega:¬ l=r)]
  split
  ·exact h.pcl l (by omega)
  ·exact h.inc l l' h1 (by omega)
 ·rw [he i j hn,if_neg (by omega)]
  by_cases hjc:j=col
  ·rw [hjc];grind
  ·rw [h.low i j (by omega) hn (by omega),h.low r j (Nat.le_refl _) hr (by omega)];grind
 ·rw [he l j (by omega),if_pos (by omega)]
  by_cases hlr:l=r
  ·rw [hlr];simp only [hlr,if_true] at hj
   exact h.low r j (Nat.le_refl _) hr hj
  ·simp only [if_neg hlr] at hj
   exact h.bef l j (by omega) hj
 ·rw [he l _ (by omega),if_pos (by omega)]
  by_cases hlr:l=r
  ·simp only [hlr,if_true];exact hp
  ·simp only [if_neg hlr];exact h.piv l (by omega)
 ·rw [<- h.det N f σ h1 (fun a ha=>h2 a (by omega)) (fun a ha=>by
    by_cases har:a=r
    ·rw [har,h2 r (by omega)];exact Nat.le_refl _
    ·have:=h3 a (by omega);omega)]
  by_cases hN:N <= r
  ·refine Zau fun a b ha hb=>?_
   rw [he _ _ (h1 a ha),if_pos];rw [h2 a (by omega)];omega
  ·have hσr:σ r=r:=h2 r (by omega)
   rw [<- Zl7 (fun a b=>s (σ a) * Zn R (σ a) (f b)) (l:=r) (n:=N) (by omega) (fun a=>if a <= r then 0 else - (s (σ a) * Zn R (σ a) col / (s r * Zn R r col)))]
   refine Zau fun a b ha hb=>?_
   rw [he _ _ (h1 a ha)]
   by_cases har:a <= r
   ·rw [h2 a (by omega),if_pos har]
    simp only [if_pos har]
    split
    ·rfl
    ·grind
   ·have:=h3 a (by omega)
    rw [if_neg (by omega),if_neg (by omega),if_neg har,hσr];have hs:=(h.sB r hr).2
    grind
structure EIZ (n m r:Nat) (R:List (List Rat)) (pc:Nat->Nat) (s:Nat->Rat) (Z:List (List Int)) (last:Int):Prop where
 len:Z.length=n
 row:∀ i,i < n->(Z[i]?.getD []).length=m
 last:(last:Rat)=Zeb R pc s r
 ent:∀ i j,i < n->(Zaf Z i j:Rat)=Zeb R pc s (min i r) * (s i * Zn R i j)
theorem Zma {R':List (List Rat)} {pc':Nat->Nat} {s':Nat->Rat} {l:Nat} (h:∀ i,i < l->s i * Zn R i (pc i)=s' i * Zn R' i (pc' i)):Zeb R pc s l=Zeb R' pc' s' l:=Zch h
theorem Zf1 {a b:Int} (h:(a:Rat)=(b:Rat)):a=b:=by exact_mod_cast h
theorem EIZ.last_ne {Z:List (List Int)} {last:Int} (h:EIR B S n m col r R pc G s) (k:EIZ n m r R pc s Z last):last ≠ 0:=by
 rintro rfl;exact h.piv_ne (Nat.le_refl r) (k.last.symm.trans rfl)
theorem EIZ.last_bnd {Z:List (List Int)} {last:Int} (h:EIR B S n m col r R pc G s) (k:EIZ n m r R pc s Z last) (hB:1 <= B):last.natAbs <= Za1 B n:=by
 obtain ⟨z,h1,h2⟩:=h.pivL_bnd (Nat.le_refl r);rw [<- k.last] at h1;rw [Zf1 h1];exact Nat.le_trans h2 (Zcw hB h.rn)
theorem EIZ.bnd {Z:List (List Int)} {last:Int} (h:EIR B S n m col r R pc G s) (k:EIZ n m r R pc s Z last) (hB:1 <= B) {i:Nat} (hi:i < n) (j:Nat):(Zaf Z i j).natAbs <= Za1 B n:=by
 obtain ⟨z,h1,h2⟩:=h.minor hi j;rw [<- k.ent i j hi] at h1;rw [Zf1 h1];exact Nat.le_trans h2 (Zcw hB (by omega))
theorem EIZ.zero {Z:List (List Int)} {last:Int} (h:EIR B S n m col r R pc G s) (k:EIZ n m r R pc s Z last) {i:Nat} (hi:i < n) (j:Nat):(Zaf Z i j == 0)=(Zn R i j == 0):=by
 have h1:=k.ent i j hi;have h2:=h.piv_ne (l:=min i r) (by omega);have h3:=(h.sB i hi).2
 by_cases h0:Zn R i j=0
 ·rw [h0] at h1 ⊢
  have:Zaf Z i j=0:=Zf1 (by rw [h1];grind);rw [this];rfl
 ·have:Zaf Z i j ≠ 0:=by
    intro hz;rw [hz] at h1
    rcases Rat.mul_eq_zero.1 h1.symm with h4 | h4
    ·exact h2 h4
    ·rcases Rat.mul_eq_zero.1 h4 with h4 | h4
     ·exact h3 h4
     ·exact h0 h4
  rw [beq_eq_false_iff_ne.2 this,beq_eq_false_iff_ne.2 h0]
theorem Zhk {Z:List (List Int)} {k r:Nat} (hk:k < Z.length) (hr:r < Z.length) (i j:Nat):Zaf (Zai Z k r) i j=Zaf Z (swI k r i) j:=by
 unfold Zaf;rw [Zdg hk hr]
theorem EIZ.swap {Z:List (List Int)} {last:Int} (h:EIR B S n m col r R pc G s) (q:EIZ n m r R pc s Z last) {k:Nat} (hk:k < n) (hrk:r <= k):EIZ n m r (Zai R k r) pc (fun i=>s (swI k r i)) (Zai Z k r) last:=by
 have hr:r < n:=by omega
 have hl:=h.len;have hzl:=q.len;have he:∀ i j,Zn (Zai R k r) i j=Zn R (swI k r i) j:=Zhr (by omega) (by omega)
 have hp:∀ l,l <= r->Zeb (Zai R k r) pc (fun i=>s (swI k r i)) l=Zeb R pc s l:=fun l hl=>Zma fun i hi=>by rw [he,Zlb hrk (by omega)]
 refine ⟨by rw [Zdz];exact hzl,fun i hi=>by rw [Zdg (by omega) (by omega)];exact q.row _ (Zg8 hk hr hi),?_,fun i j hi=>?_⟩
 ·rw [hp r (Nat.le_refl r)];exact q.last
 ·rw [hp _ (by omega),he,Zhk (by omega) (by omega),q.ent _ j (Zg8 hk hr hi)]
  have:min (swI k r i) r=min i r:=by
   by_cases hir:i < r
   ·rw [Zlb hrk hir]
   ·have:=Zo5 (i:=i) hrk (by omega);omega
  rw [this]
theorem Zr2 {Z:List (List Int)} {last:Int} (hrow:∀ i,i < Z.length->(Z[i]?.getD []).length=m) (i j:Nat) (hi:i < Z.length) :
    Zaf (Zc9 Z r col last) i j=if i <= r then Zaf Z i j else if j < m then Int.fdiv (Zaf Z i j * Zaf Z r col - Zaf Z i col * Zaf Z r j) last else 0:=by
 unfold Zc9;show ((List.map _ (List.range Z.length))[i]?.getD [])[j]?.getD 0=_;rw [List.getElem?_map,List.getElem?_range hi];simp only [Option.map_some,Option.getD_some]
 by_cases h1:i <= r
 ·rw [if_pos h1,if_pos h1];rfl
 ·rw [if_neg h1,if_neg h1]
  unfold Zpj;rw [List.getElem?_map]
  by_cases hj:j < (Z[i]?.getD []).length
  ·rw [List.getElem?_range hj,if_pos (by rw [hrow i hi] at hj;exact hj)];rfl
  ·rw [List.getElem?_eq_none (l:=List.range _) (by simpa using hj),if_neg (by rw [hrow i hi] at hj;exact hj)];rfl
theorem Zh9 {Z:List (List Int)} {last:Int}:(Zc9 Z r col last).length=Z.length:=by unfold Zc9;simp
theorem Zsi {Z:List (List Int)} {last:Int} (i:Nat) (hi:i < Z.length):((Zc9 Z r col last)[i]?.getD []).length=(Z[i]?.getD []).length:=by
 unfold Zc9;rw [List.getElem?_map,List.getElem?_range hi];simp only [Option.map_some,Option.getD_some]
 split
 ·rfl
 ·unfold Zpj;simp
theorem Zpv (hrow:∀ i,i < n->(R[i]?.getD []).length=m) {i j:Nat} (hi:i < n) (hj:m <= j):Zn R i j=0:=by
 unfold Zn;rw [List.getElem?_eq_none (by rw [hrow i hi];exact hj)];rfl
theorem EIZ.clear {Z:List (List Int)} {last:Int} (h:EIR B S n m col r R pc G s) (q:EIZ n m r R pc s Z last) (hc:col < m) (hr:r < n) (hp:Zn R r col ≠ 0) :
    EIZ n m (r+1) (Zcr R r col) (fun l=>if l=r then col else pc l) s (Zc9 Z r col last) (Zaf Z r col):=by
 have hl:=h.len;have hzl:=q.len;have h':=h.clear hc hr hp
 have he:∀ i j,i < n->Zn (Zcr R r col) i j=if i <= r then Zn R i j else Zn R i j - Zn R i col / Zn R r col * Zn R r j:=
  fun i j hi=>Zik (m:=m) (fun i hi=>h.row i (by omega)) (fun j hj=>h.low r j (Nat.le_refl _) hr hj) i j (by omega) (by omega)
 have hpl:∀ l,l <= r->Zeb (Zcr R r col) (fun l=>if l=r then col else pc l) s l=Zeb R pc s l:=fun l hl=>Zma fun i hi=>by
  rw [he _ _ (by omega),if_pos (by omega),if_neg (by omega)]
 have hpr:Zeb (Zcr R r col) (fun l=>if l=r then col else pc l) s (r+1)=Zeb R pc s r * (s r * Zn R r col):=by
  rw [Zeb,Zap];have:=hpl r (Nat.le_refl r);unfold Zeb at this;rw [this,he _ _ hr,if_pos (Nat.le_refl r),if_pos rfl];rfl
 refine ⟨by rw [Zh9];exact hzl,fun i hi=>by rw [Zsi i (by omega)];exact q.row i hi,?_,fun i j hi=>?_⟩
 ·rw [hpr,q.ent r col hr,show min r r=r by omega]
 ·rw [Zr2 (m:=m) (fun i hi=>q.row i (by omega)) i j (by omega)]
  by_cases hir:i <= r
  ·rw [if_pos hir,hpl _ (by omega),he _ _ hi,if_pos hir,q.ent i j hi,show min i (r+1)=min i r by omega]
  ·rw [if_neg hir]
   by_cases hj:j < m
   ·rw [if_pos hj]
    obtain ⟨z,hz1,-⟩:=h'.minor hi j;rw [show min i (r+1)=r+1 by omega,hpr,he _ _ hi,if_neg hir] at hz1;have hln:=q.last_ne h;have e1:=q.ent i j hi;have e2:=q.ent r col hr;have e3:=q.ent i col hi;have e4:=q.ent r j hr;have e5:=q.last;rw [show min i r=r by omega] at e1 e3;rw [show min r r=r by omega] at e2 e4
    have hkey:Zaf Z i j * Zaf Z r col - Zaf Z i col * Zaf Z r j=last * z:=Zf1 (by
     rw [Rat.intCast_sub,Rat.intCast_mul,Rat.intCast_mul,Rat.intCast_mul,e1,e2,e3,e4,e5,<- hz1]
     grind)
    rw [hkey,Int.mul_comm,Int.mul_fdiv_cancel _ hln,<- hz1,show min i (r+1)=r+1 by omega,hpr,he _ _ hi,if_neg hir]
   ·rw [if_neg hj,Zpv (n:=n) h'.row hi (by omega)]
    have:((0:Int):Rat)=0:=rfl;rw [this];grind
end
def BdZ (C m:Nat) (Z:List (List Int)):Prop:=(∀ i,i < Z.length->(Z[i]?.getD []).length=m)/\∀ i j,(Zaf Z i j).natAbs < C
def BdR (C D m:Nat) (R:List (List Rat)):Prop:=(∀ i,i < R.length->(R[i]?.getD []).length=m)/\∀ i j,(Zn R i j).num.natAbs < C/\(Zn R i j).den < D
def okZ (C m:Nat):Nat->Nat->Nat->List (List Int)->Int->Prop
 | 0,_,_,Z,last=>BdZ C m Z/\last ≠ 0/\last.natAbs < C
 | f+1,col,r,Z,last=>BdZ C m Z/\(last ≠ 0/\last.natAbs < C)/\(r=Z.length \/
     (Zbe (fun i=>Zaf Z i col == 0) Z.length Z.length r=Z.length->okZ C m f (col+1) r Z last) /\
     (Zbe (fun i=>Zaf Z i col == 0) Z.length Z.length r ≠ Z.length->okZ C m f (col+1) (r+1) (Zc9 (Zai Z (Zbe (fun i=>Zaf Z i col == 0) Z.length Z.length r) r) r col last) (Zaf Z (Zbe (fun i=>Zaf Z i col == 0) Z.length Z.length r) col)))
def okR (C D m:Nat):Nat->Nat->Nat->List (List Rat)->Prop
 | 0,_,_,R=>BdR C D m R
 | f+1,col,r,R=>BdR C D m R/\(r=R.length \/
     (Zbe (fun i=>Zn R i col == 0) R.length R.length r=R.length->okR C D m f (col+1) r R) /\
     (Zbe (fun i=>Zn R i col == 0) R.length R.length r ≠ R.length->okR C D m f (col+1) (r+1) (Zcr (Zai R (Zbe (fun i=>Zn R i col == 0) R.length R.length r) r) r col)))
def sgB (b:Bool):Rat:=if b then -1 else 1
theorem Zue {n k r:Nat} (f:Nat->Rat) (hk:k < n) (hr:r < n):Zap n (fun i=>f (swI k r i))=Zap n f:=by
 by_cases hkr:k=r
 ·subst hkr;refine Zch fun i _=>?_
  unfold swI;split
  ·rename_i h;rw [h]
  ·rfl
 ·have key:∀ n (f:Nat->Rat) k r,k < r->r < n->Zap n (fun i=>f (swI k r i))=Zap n f:=by
    intro n
    induction n with
    | zero=>intro f k r _ h;omega
    | succ n ih =>
     intro f k r hkr hr
     by_cases hrn:r=n
     ·subst hrn
      have hone:∀ (m:Nat) (g h:Nat->Rat),k < m->(∀ i,i < m->i ≠ k->g i=h i)->Zap m g * h k=Zap m h * g k:=by
       intro m
       induction m with
       | zero=>intro g h hk _;omega
       | succ m ihm =>
        intro g h hk he;simp only [Zap]
        by_cases hkm:k=m
        ·subst hkm
         rw [Zch (f:=g) (g:=h) (fun i hi=>he i (by omega) (by omega))];grind
        ·have:=ihm g h (by omega) (fun i hi=>he i (by omega))
         rw [he m (by omega) (by omega)];grind
      simp only [Zap]
      have e1:swI k r r=k:=by unfold swI;rw [if_neg (by omega),if_pos rfl]
      have e2:swI k r k=r:=by unfold swI;rw [if_pos rfl]
      have:=hone r (fun i=>f (swI k r i)) f hkr (fun i hi hik=>by unfold swI;rw [if_neg hik,if_neg (by omega)]);simp only [e2] at this;rw [e1];exact this
     ·simp only [Zap]
      rw [ih f k r hkr (by omega)]
      have:swI k r n=n:=by unfold swI;rw [if_neg (by omega),if_neg (by omega)]
      rw [this]
  rcases Nat.lt_or_gt_of_ne hkr with h | h
  ·exact key n f k r h hr
  ·have:∀ i,swI k r i=swI r k i:=fun i=>by unfold swI;split <;> split <;> omega
   rw [<- key n f r k h hk]
   exact Zch fun i _=>by rw [this]
theorem Zw1 {n k r:Nat} (M:Nat->Nat->Rat) (hk:k < n) (hr:r < n):Z1 n (fun a b=>M (swI k r a) b)=if k=r then Z1 n M else - Z1 n M:=by
 by_cases hkr:k=r
 ·subst hkr
  rw [if_pos rfl]
  refine Zau fun a b _ _=>?_
  unfold swI;split
  ·rename_i h;rw [h]
  ·rfl
 ·rw [if_neg hkr,<- Zuv M hk hr hkr]
  congr 1
  funext a b
  unfold swI Zad
  by_cases h1:a=k
  ·subst h1;rw [if_pos rfl,if_neg hkr,if_pos rfl]
  ·rw [if_neg h1]
   by_cases h2:a=r
   ·rw [if_pos h2,if_pos h2]
   ·rw [if_neg h2,if_neg h2,if_neg h1]
theorem EIR.bdR {B S n m col r:Nat} {R:List (List Rat)} {pc:Nat->Nat} {G:Nat->Nat->Rat} {s:Nat->Rat} (h:EIR B S n m col r R pc G s) (hB:1 <= B) (hS:1 <= S):BdR (Za1 B n+1) (Za1 B n * S+1) m R:=by
 have hl:=h.len;refine ⟨fun i hi=>h.row i (by omega),fun i j=>?_⟩
 by_cases hi:i < n
 ·have:=h.bound hB hi j;omega
 ·have:Zn R i j=0:=by unfold Zn;rw [List.getElem?_eq_none (l:=R) (by omega)];rfl
  have h1:1 <= Za1 B n:=Zcw (m:=0) hB (by omega);have h2:1 * 1 <= Za1 B n * S:=Nat.mul_le_mul h1 hS;rw [this];refine ⟨by simp,?_⟩;rw [show (0:Rat).den=1 from rfl];omega
theorem EIZ.bdZ {B S n m col r:Nat} {R:List (List Rat)} {pc:Nat->Nat} {G:Nat->Nat->Rat} {s:Nat->Rat} {Z:List (List Int)} {last:Int} (h:EIR B S n m col r R pc G s) (k:EIZ n m r R pc s Z last) (hB:1 <= B):BdZ (Za1 B n+1) m Z:=by
 have hl:=k.len;refine ⟨fun i hi=>k.row i (by omega),fun i j=>?_⟩
 by_cases hi:i < n
 ·have:=k.bnd h hB hi j;omega
 ·have:Zaf Z i j=0:=by unfold Zaf;rw [List.getElem?_eq_none (l:=Z) (by omega)];rfl
  rw [this];simp
theorem Zfn {B S n m:Nat} (hB:1 <= B) (hS:1 <= S):∀ (f col r:Nat) (R:List (List Rat)) (pc:Nat->Nat) (G:Nat->Nat->Rat) (s:Nat->Rat) (Z:List (List Int)) (neg:Bool) (last:Int),
    EIR B S n m col r R pc G s->EIZ n m r R pc s Z last->col+f <= m ->
    okZ (Za1 B n+1) m f col r Z last/\okR (Za1 B n+1) (Za1 B n * S+1) m f col r R /\
    (Zae f col r Z neg last).2.1=(Zak f col r R neg).2.1/\(Zae f col r Z neg last).2.2.1=(Zak f col r R neg).2.2 /\
    ∃ col' pc' G' s',EIR B S n m col' (Zak f col r R neg).2.1 (Zak f col r R neg).1 pc' G' s'/\EIZ n m (Zak f col r R neg).2.1 (Zak f col r R neg).1 pc' s' (Zae f col r Z neg last).1 (Zae f col r Z neg last).2.2.2 /\
     (col'=col+f \/ (Zak f col r R neg).2.1=n/\col' <= col+f)/\Zap n s'=Zap n s/\(∀ φ:Nat->Nat,sgB (Zak f col r R neg).2.2 * Z1 n (fun a b=>G' a (φ b))=sgB neg * Z1 n (fun a b=>G a (φ b)))
 | 0,col,r,R,pc,G,s,Z,neg,last,h,k,hm=>by
  have h1:=k.last_bnd h hB;exact ⟨⟨k.bdZ h hB,k.last_ne h,by omega⟩,h.bdR hB hS,rfl,rfl,col,pc,G,s,h,k,.inl rfl,rfl,fun φ=>rfl⟩
 | f+1,col,r,R,pc,G,s,Z,neg,last,h,k,hm=>by
  have hRl:=h.len;have hZl:=k.len;have h1:=k.last_bnd h hB;have hrn:=h.rn
  have hpe:Zbe (fun i=>Zaf Z i col == 0) Z.length Z.length r=Zbe (fun i=>Zn R i col == 0) R.length R.length r:=by
   rw [hRl,hZl];exact Zpt (by omega) hrn (fun i h1 h2=>k.zero h h2 col)
  unfold Zae Zak okZ okR;simp only [hpe];rw [hRl] at hpe ⊢;simp only [hZl]
  by_cases hr:r=n
  ·simp only [if_pos hr]
   exact ⟨⟨k.bdZ h hB,⟨k.last_ne h,by omega⟩,.inl hr⟩,⟨h.bdR hB hS,.inl hr⟩,(by trivial),(by trivial),col,pc,G,s,h,k,.inr ⟨hr,by omega⟩,rfl,fun φ=>rfl⟩
  ·simp only [if_neg hr]
   obtain ⟨q,hq⟩:∃ q,Zbe (fun i=>Zn R i col == 0) n n r=q:=⟨_,rfl⟩;obtain ⟨p1,p2,p3,p4⟩:=Zeu (z:=fun i=>Zn R i col == 0) (n:=n) (f:=n) (k:=r) (by omega) (by omega);rw [hq] at p1 p2 p3 p4;simp only [hq]
   by_cases hqn:q=n
   ·simp only [if_pos hqn]
    have hz:∀ i,r <= i->i < n->Zn R i col=0:=fun i h1 h2=>by simpa using p3 i h1 (by omega)
    obtain ⟨o1,o2,o3,o4,col',pc',G',s',o5,o6,o7,o8,o9⟩:=Zfn hB hS f (col+1) r R pc G s Z neg last (h.skip (by omega) hz) k (by omega);exact ⟨⟨k.bdZ h hB,⟨k.last_ne h,by omega⟩,.inr ⟨fun _=>o1,fun hn=>absurd hqn hn⟩⟩,⟨h.bdR hB hS,.inr ⟨fun _=>o2,fun hn=>absurd hqn hn⟩⟩,o3,o4,col',pc',G',s',o5,o6,by omega,o8,o9⟩
   ·simp only [if_neg hqn]
    have hqn':q < n:=by omega
    have hpv:Zn R q col ≠ 0:=by simpa using p4 hqn'
    have hsw:=h.swap hqn' p1;have ksw:=k.swap h hqn' p1
    have hen:Zn (Zai R q r) r col=Zn R q col:=by
     rw [Zhr (by omega) (by omega)];congr 1;unfold swI;split
     ·rename_i h;exact h
     ·rw [if_pos rfl]
    have hez:Zaf (Zai Z q r) r col=Zaf Z q col:=by
     rw [Zhk (by omega) (by omega)];congr 1;unfold swI;split
     ·rename_i h;exact h
     ·rw [if_pos rfl]
    have hcl:=hsw.clear (by omega) (by omega) (by rw [hen];exact hpv);have kcl:=ksw.clear hsw (by omega) (by omega) (by rw [hen];exact hpv);rw [hez] at kcl;obtain ⟨o1,o2,o3,o4,col',pc',G',s',o5,o6,o7,o8,o9⟩:=Zfn hB hS f (col+1) (r+1) _ _ _ _ _ (neg != decide (q ≠ r)) _ hcl kcl (by omega);refine ⟨⟨k.bdZ h hB,⟨k.last_ne h,by omega⟩,.inr ⟨fun hn=>absurd hn hqn,fun _=>o1⟩⟩,⟨h.bdR hB hS,.inr ⟨fun hn=>absurd hn hqn,fun _=>o2⟩⟩,o3,o4,col',pc',G',s',o5,o6,by omega,?_,fun φ=>?_⟩
    ·rw [o8,Zue s hqn' (by omega)]
    ·rw [o9,Zw1 (fun a b=>G a (φ b)) hqn' (by omega)]
     by_cases hqr:q=r
     ·rw [if_pos hqr]
      have:decide (q ≠ r)=false:=by simp [hqr]
      rw [this];cases neg <;> rfl
     ·rw [if_neg hqr]
      have:decide (q ≠ r)=true:=by simp [hqr]
      rw [this];cases neg <;> simp [sgB] <;> grind
def denTo (row:List Rat):Nat->Nat
 | 0=>1
 | k+1=>denTo row k * ((row[k]?.getD 0).den / Nat.gcd (denTo row k) (row[k]?.getD 0).den)
def Zdr (row:List Rat):List Int:=row.map fun f=>f.num * ((denTo row row.length / f.den:Nat):Int)
def Zt (R:List (List Rat)):List (List Int):=R.map Zdr
def denAt (R:List (List Rat)) (i:Nat):Nat:=denTo (R[i]?.getD []) (R[i]?.getD []).length
theorem Zd0 (row:List Rat) (k:Nat):0 < denTo row k:=by
 induction k with
 | zero=>exact Nat.one_pos
 | succ k ih =>
  refine Nat.mul_pos ih (Nat.div_pos (Nat.le_of_dvd (Rat.den_pos _) (Nat.gcd_dvd_right _ _)) (Nat.gcd_pos_of_pos_left _ ih))
theorem Zlv (row:List Rat) (k:Nat):denTo row k ∣ denTo row (k+1)/\(row[k]?.getD 0).den ∣ denTo row (k+1):=by
 refine ⟨⟨_,rfl⟩,?_⟩;obtain ⟨c,hc⟩:=Nat.gcd_dvd_left (denTo row k) (row[k]?.getD 0).den;refine ⟨c,?_⟩;simp only [denTo];obtain ⟨d,hd⟩:=Nat.gcd_dvd_right (denTo row k) (row[k]?.getD 0).den;have hg:0 < Nat.gcd (denTo row k) (row[k]?.getD 0).den:=Nat.gcd_pos_of_pos_left _ (Zd0 row k)
 have e:(row[k]?.getD 0).den / Nat.gcd (denTo row k) (row[k]?.getD 0).den=d:=by
  rw [Nat.div_eq_iff_eq_mul_left hg (Nat.gcd_dvd_right _ _),Nat.mul_comm];exact hd
 rw [e]
 calc denTo row k * d=(Nat.gcd (denTo row k) (row[k]?.getD 0).den * c) * d:=by rw [<- hc]
  _=(Nat.gcd (denTo row k) (row[k]?.getD 0).den * d) * c:=by rw [Nat.mul_assoc,Nat.mul_assoc,Nat.mul_comm c d]
  _=(row[k]?.getD 0).den * c:=by rw [<- hd]
theorem Zj9 (row:List Rat) {j:Nat}:∀ {k:Nat},j < k->(row[j]?.getD 0).den ∣ denTo row k
 | 0,h=>by omega
 | k+1,h=>by
  by_cases hj:j=k
  ·rw [hj];exact (Zlv row k).2
  ·exact Nat.dvd_trans (Zj9 row (j:=j) (k:=k) (by omega)) (Zlv row k).1
theorem Zpe (row:List Rat) {D:Nat} (h:∀ j:Nat,(row[j]?.getD 0).den <= D) (k:Nat):denTo row k <= D ^ k:=by
 induction k with
 | zero=>exact Nat.le_refl _
 | succ k ih =>
  rw [Nat.pow_succ];exact Nat.mul_le_mul ih (Nat.le_trans (Nat.div_le_self _ _) (h k))
theorem Zjo (row:List Rat):(Zdr row).length=row.length:=by unfold Zdr;simp
theorem Zo3 (row:List Rat) (j:Nat):(((Zdr row)[j]?.getD 0:Int):Rat)=(denTo row row.length:Nat) * row[j]?.getD 0:=by
 unfold Zdr;rw [List.getElem?_map]
 by_cases hj:j < row.length
 ·rw [List.getElem?_eq_getElem hj]
  simp only [Option.map_some,Option.getD_some];have hd:=Zj9 row hj;rw [List.getElem?_eq_getElem hj] at hd;simp only [Option.getD_some] at hd;obtain ⟨c,hc⟩:=hd;rw [hc,Nat.mul_div_cancel_left _ (Rat.den_pos _),Rat.intCast_mul,Rat.intCast_natCast,Rat.natCast_mul]
  have e0:((row[j].num:Int):Rat) / ((row[j].den:Nat):Rat)=row[j]:=by have:=Rat.num_divInt_den row[j];rw [Rat.divInt_eq_div,Rat.intCast_natCast] at this;exact this
  have e1:((row[j].den:Nat):Rat) ≠ 0:=by
   intro h;have:row[j].den=0:=by exact_mod_cast h
   have:=row[j].den_pos;omega
  have e2:((row[j].num:Int):Rat)=row[j] * ((row[j].den:Nat):Rat):=by rw [<- e0];grind
  rw [e2];grind
 ·rw [List.getElem?_eq_none (by omega)]
  simp only [Option.map_none,Option.getD_none];have:((0:Int):Rat)=0:=rfl;rw [this];grind
theorem Zf8 (R:List (List Rat)) (i j:Nat):((Zaf (Zt R) i j:Int):Rat)=(denAt R i:Nat) * Zn R i j:=by
 unfold Zaf Zt Zn denAt;rw [List.getElem?_map]
 cases h:R[i]? with
 | none=>simp only [Option.map_none,Option.getD_none,List.getElem?_nil];have:((0:Int):Rat)=0:=rfl
         rw [this];grind
 | some row=>simp only [Option.map_some,Option.getD_some];exact Zo3 row j
theorem Ziq {B S n m:Nat} (R:List (List Rat)) (hl:R.length=n) (hrow:∀ i,i < n->(R[i]?.getD []).length=m) (hS:∀ i,i < n->denAt R i <= S) (hBd:∀ i j,i < n->(Zaf (Zt R) i j).natAbs <= B) :
    EIR B S n m 0 0 R (fun _=>0) (fun i j=>(denAt R i:Nat) * Zn R i j) (fun i=>(denAt R i:Nat))/\EIZ n m 0 R (fun _=>0) (fun i=>(denAt R i:Nat)) (Zt R) 1:=by
 refine ⟨⟨hl,hrow,fun l h=>by omega,fun l l' _ h=>by omega,fun i j _ _ h=>by omega,fun l j h=>by omega,fun l h=>by omega,Nat.zero_le _,Nat.zero_le _,fun i hi=>⟨⟨(denAt R i:Nat),by rw [Rat.intCast_natCast],by rw [Int.natAbs_natCast];exact hS i hi⟩,fun h0=>?_⟩,fun i j hi=>⟨_,(Zf8 R i j).symm,hBd i j hi⟩,fun N f σ _ _ _=>rfl⟩,⟨by unfold Zt;simp [hl],fun i hi=>?_,rfl,fun i j hi=>?_⟩⟩
 ·have:denAt R i=0:=by exact_mod_cast h0
  have:=Zd0 (R[i]?.getD []) (R[i]?.getD []).length;unfold denAt at *;omega
 ·unfold Zt
  rw [List.getElem?_map,List.getElem?_eq_getElem (by omega)];simp only [Option.map_some,Option.getD_some];rw [Zjo];have:=hrow i hi;rw [List.getElem?_eq_getElem (by omega)] at this;exact this
 ·rw [Zf8]
  have:Zeb R (fun _=>0) (fun i=>((denAt R i:Nat):Rat)) (min i 0)=1:=by rw [show min i 0=0 by omega];rfl
  rw [this];grind
def rankR (R:List (List Rat)) (cols:Nat):Nat:=(Zak cols 0 0 R false).2.1
def rankZ (R:List (List Rat)) (cols:Nat):Nat:=(Zae cols 0 0 (Zt R) false 1).2.1
def Zhy (R:List (List Rat)):Rat:=
 if (Zak R.length 0 0 R false).2.1 < R.length then 0
 else sgB (Zak R.length 0 0 R false).2.2 * Zap R.length (fun i=>Zn (Zak R.length 0 0 R false).1 i i)
def byZ (R:List (List Rat)):Nat->Nat
 | 0=>1
 | k+1=>byZ R k * denAt R k
def Zed (R:List (List Rat)):Int:=
 if (Zae R.length 0 0 (Zt R) false 1).2.2.1 then -(if (Zae R.length 0 0 (Zt R) false 1).2.1 < R.length then 0 else (Zae R.length 0 0 (Zt R) false 1).2.2.2)
 else if (Zae R.length 0 0 (Zt R) false 1).2.1 < R.length then 0 else (Zae R.length 0 0 (Zt R) false 1).2.2.2
theorem Zje (R:List (List Rat)) (k:Nat):((byZ R k:Nat):Rat)=Zap k (fun i=>((denAt R i:Nat):Rat)):=by
 induction k with
 | zero=>rfl
 | succ k ih=>simp only [byZ,Zap];rw [Rat.natCast_mul,ih]
theorem Zfz (R:List (List Rat)) (k:Nat):0 < byZ R k:=by
 induction k with
 | zero=>exact Nat.one_pos
 | succ k ih=>exact Nat.mul_pos ih (Zd0 _ _)
theorem Zns {n:Nat} (f g:Nat->Rat):Zap n (fun i=>f i * g i)=Zap n f * Zap n g:=by
 induction n with
 | zero=>simp only [Zap];grind
 | succ n ih=>simp only [Zap];rw [ih];grind
theorem Zl0 {n:Nat} {f:Nat->Rat} {k:Nat} (hk:k < n) (h:f k=0):Zap n f=0:=by
 induction n with
 | zero=>omega
 | succ n ih =>
  simp only [Zap]
  by_cases hkn:k=n
  ·rw [<- hkn,h];grind
  ·rw [ih (by omega)];grind
theorem Zk7 {n:Nat} (M:Nat->Nat->Rat) (s:Nat->Rat):Z1 n (fun a b=>s a * M a b)=Zap n s * Z1 n M:=by
 have key:∀ m,m <= n->Z1 n (fun a b=>if a < m then s a * M a b else M a b)=Zap m s * Z1 n M:=by
  intro m
  induction m with
  | zero=>intro _;simp only [Zap];rw [Zau (N:=M) (fun a b _ _=>if_neg (Nat.not_lt_zero a))];grind
  | succ m ih =>
   intro hm;have h0:=ih (by omega);have h1:=Zen (n:=n) (fun a b=>if a < m then s a * M a b else M a b) (k:=m) (by omega) (M m) (M m) (s m) 0
   have e1:Zad (fun a b=>if a < m then s a * M a b else M a b) m (fun b=>s m * M m b+0 * M m b)=fun a b=>if a < m+1 then s a * M a b else M a b:=by
    funext a b
    unfold Zad
    by_cases ha:a=m
    ·subst ha;rw [if_pos rfl,if_pos (by omega)];grind
    ·rw [if_neg ha]
     by_cases h2:a < m
     ·rw [if_pos (by omega)];simp only [if_pos h2]
     ·rw [if_neg (by omega)];simp only [if_neg h2]
   have e2:Zad (fun a b=>if a < m then s a * M a b else M a b) m (M m)=fun a b=>if a < m then s a * M a b else M a b:=by
    funext a b
    unfold Zad
    by_cases ha:a=m
    ·subst ha;rw [if_pos rfl,if_neg (by omega)]
    ·rw [if_neg ha]
   rw [e1,e2,h0] at h1;rw [h1];simp only [Zap];grind
 rw [<- key n (Nat.le_refl _)]
 exact Zau fun a b ha _=>by rw [if_pos ha]
section
variable {B S n m:Nat}
theorem EIR.diag {col:Nat} {R:List (List Rat)} {pc:Nat->Nat} {G:Nat->Nat->Rat} {s:Nat->Rat} (h:EIR B S n m col n R pc G s) (hc:col <= n) {l:Nat} (hl:l < n):pc l=l:=by
 have h1:∀ l,l < n->l <= pc l:=by
  intro l
  induction l with
  | zero=>intro _;omega
  | succ l ih=>intro hl;have:=ih (by omega);have:=h.inc l (l+1) (by omega) hl;omega
 have h2:∀ d l,l+d+1=n->pc l+d < n:=by
  intro d
  induction d with
  | zero=>intro l hl;have:=h.pcl l (by omega);omega
  | succ d ih=>intro l hl;have:=ih (l+1) (by omega);have:=h.inc l (l+1) (by omega) (by omega);omega
 have:=h1 l hl;have:=h2 (n - l - 1) l (by omega);omega
theorem Znw (hB:1 <= B) (hS:1 <= S) (R:List (List Rat)) (hl:R.length=n) (hrow:∀ i,i < n->(R[i]?.getD []).length=m) (hs:∀ i,i < n->denAt R i <= S) (hBd:∀ i j,i < n->(Zaf (Zt R) i j).natAbs <= B) {cols:Nat} (hc:cols <= m) :
    okZ (Za1 B n+1) m cols 0 0 (Zt R) 1/\okR (Za1 B n+1) (Za1 B n * S+1) m cols 0 0 R/\rankZ R cols=rankR R cols:=by
 obtain ⟨h1,h2⟩:=Ziq R hl hrow hs hBd;obtain ⟨o1,o2,o3,-⟩:=Zfn hB hS cols 0 0 R _ _ _ _ false 1 h1 h2 (by omega);exact ⟨o1,o2,o3⟩
theorem Zpo (hB:1 <= B) (hS:1 <= S) (R:List (List Rat)) (hl:R.length=n) (hrow:∀ i,i < n->(R[i]?.getD []).length=n) (hs:∀ i,i < n->denAt R i <= S) (hBd:∀ i j,i < n->(Zaf (Zt R) i j).natAbs <= B) :
    Rat.divInt (Zed R) (byZ R n)=Zhy R/\Zhy R=Z1 n (Zn R)/\(Zed R).natAbs <= Za1 B n:=by
 obtain ⟨h1,h2⟩:=Ziq R hl hrow hs hBd;obtain ⟨o1,o2,o3,o4,col',pc',G',s',o5,o6,o7,o8,o9⟩:=Zfn hB hS n 0 0 R _ _ _ _ false 1 h1 h2 (by omega)
 have hby:((byZ R n:Nat):Rat) ≠ 0:=by
  intro h;have:byZ R n=0:=by exact_mod_cast h
  have:=Zfz R n;omega
 have hdG:=o9 (fun b=>b);rw [Zk7 (fun a b=>Zn R a b) (fun a=>((denAt R a:Nat):Rat)),<- Zje] at hdG;have hs1:sgB false=1:=rfl;rw [hs1] at hdG
 have hsq:∀ b,sgB b * sgB b=1:=by intro b;cases b <;> simp [sgB] <;> grind
 unfold Zhy Zed;rw [hl,o3,o4]
 by_cases hr:(Zak n 0 0 R false).2.1 < n
 ·simp only [if_pos hr]
  have hz:Z1 n (Zn R)=0:=by
   have hE:=o5.det n (fun b=>b) (fun a=>a) (fun a ha=>ha) (fun a _=>rfl) (fun a ha=>ha)
   have hcn:col'=n:=by omega
   have h0:Z1 n (fun a b=>s' a * Zn (Zak n 0 0 R false).1 a b)=0:=by
    rw [Zfj]
    ·refine Zl0 (k:=n - 1) (by omega) ?_
     rw [o5.low (n - 1) (n - 1) (by omega) (by omega) (by omega)];grind
    ·intro a b ha hb
     by_cases har:a < (Zak n 0 0 R false).2.1
     ·have:∀ l,l < (Zak n 0 0 R false).2.1->l <= pc' l:=by
        intro l
        induction l with
        | zero=>intro _;omega
        | succ l ih=>intro hl;have:=ih (by omega);have:=o5.inc l (l+1) (by omega) hl;omega
      have:=this a har;rw [o5.bef a b har (by omega)];grind
     ·rw [o5.low a b (by omega) ha (by omega)];grind
   rw [hE] at h0;rw [h0] at hdG
   have:((byZ R n:Nat):Rat) * Z1 n (Zn R)=0:=by grind
   rcases Rat.mul_eq_zero.1 this with h | h
   ·exact absurd h hby
   ·exact h
  refine ⟨?_,hz.symm,?_⟩
  ·split
   ·rw [Int.neg_zero,Rat.zero_divInt]
   ·rw [Rat.zero_divInt]
  ·split <;> simp
 ·have hrn:(Zak n 0 0 R false).2.1=n:=by have:=o5.rn;omega
  simp only [if_neg hr];rw [hrn] at o5 o6;have hlast:=o6.last
  have hpl:Zeb (Zak n 0 0 R false).1 pc' s' n=Zap n s' * Zap n (fun i=>Zn (Zak n 0 0 R false).1 i i):=by
   unfold Zeb;rw [<- Zns]
   refine Zch fun i hi=>?_
   rw [o5.diag (by omega) hi]
  rw [hpl,o8,<- Zje] at hlast;have hE:=o5.det n (fun b=>b) (fun a=>a) (fun a ha=>ha) (fun a _=>rfl) (fun a ha=>by omega)
  have hE2:Z1 n (fun a b=>s' a * Zn (Zak n 0 0 R false).1 a b)=Zap n s' * Zap n (fun i=>Zn (Zak n 0 0 R false).1 i i):=by
   rw [Zfj,Zns];intro a b ha hb;rw [o5.bef a b ha (by rw [o5.diag (by omega) ha];exact hb)];grind
  rw [hE,o8,<- Zje] at hE2;rw [hE2] at hdG;have hq:=hsq (Zak n 0 0 R false).2.2;refine ⟨?_,?_,?_⟩
  ·rw [Rat.divInt_eq_div,Rat.intCast_natCast]
   unfold sgB
   split
   ·rw [Rat.intCast_neg,hlast];grind
   ·rw [hlast];grind
  ·grind
  ·have:=o6.last_bnd o5 hB
   split
   ·rw [Int.natAbs_neg];exact this
   ·exact this
end
structure AltF (n:Nat) (F:(Nat->Nat->Rat)->Rat):Prop where
 congr:∀ {M N:Nat->Nat->Rat},(∀ a b,a < n->b < n->M a b=N a b)->F M=F N
 lin:∀ (M:Nat->Nat->Rat) (k:Nat),k < n->∀ (r s:Nat->Rat) (x y:Rat),F (Zad M k (fun b=>x * r b+y * s b))=x * F (Zad M k r)+y * F (Zad M k s)
 two:∀ (M:Nat->Nat->Rat) (k l:Nat),k < n->l < n->k ≠ l->(∀ b,M k b=M l b)->F M=0
theorem AltF.det (n:Nat):AltF n (Z1 n):=⟨Zau,fun M _ hk r s x y=>Zen M hk r s x y,fun _ _ _ hk hl hne h=>Zhb hk hl hne h⟩
section
variable {n:Nat} {F:(Nat->Nat->Rat)->Rat}
theorem AltF.add (h:AltF n F) (M:Nat->Nat->Rat) {k:Nat} (hk:k < n) (r s:Nat->Rat):F (Zad M k (fun b=>r b+s b))=F (Zad M k r)+F (Zad M k s):=by
 have:=h.lin M k hk r s 1 1;rw [show (fun b=>r b+s b)=(fun b=>1 * r b+1 * s b) by funext b;grind,this];grind
theorem AltF.swap (h:AltF n F) {k l:Nat} (hk:k < n) (hl:l < n) (hne:k ≠ l) (M:Nat->Nat->Rat):F (Zad (Zad M k (M l)) l (M k))=- F M:=by
 obtain ⟨r,hr⟩:∃ r,M l=r:=⟨_,rfl⟩;obtain ⟨s,hs⟩:∃ s,M k=s:=⟨_,rfl⟩;have h0:=h.two (Zad (Zad M k (fun b=>r b+s b)) l (fun b=>r b+s b)) k l hk hl hne (fun b=>by simp [Zad,hne]);have h1:=h.two (Zad (Zad M k r) l r) k l hk hl hne (fun b=>by simp [Zad,hne]);have h2:=h.two (Zad (Zad M k s) l s) k l hk hl hne (fun b=>by simp [Zad,hne]);rw [h.add _ hl,Zb3 _ hne,Zb3 _ hne,h.add _ hk,h.add _ hk,<- Zb3 _ hne,<- Zb3 _ hne,<- Zb3 _ hne,<- Zb3 _ hne,h1,h2] at h0;rw [hr,hs]
 have e:Zad (Zad M k s) l r=M:=by rw [<- hs,Zdc,<- hr,Zdc]
 rw [e] at h0
 grind
theorem AltF.addrow (h:AltF n F) (M:Nat->Nat->Rat) {k l:Nat} (hk:k < n) (hl:l < n) (hne:k ≠ l) (c:Rat):F (Zad M k (fun b=>M k b+c * M l b))=F M:=by
 have h1:=h.lin M k hk (M k) (M l) 1 c
 rw [show (fun b=>M k b+c * M l b)=(fun b=>1 * M k b+c * M l b) by funext b;grind,h1,Zdc,
  h.two (Zad M k (M l)) k l hk hl hne (fun b=>by simp [Zad,Ne.symm hne])]
 grind
theorem AltF.clear (h:AltF n F) (M:Nat->Nat->Rat) {l:Nat} (hl:l < n) (c:Nat->Rat):F (fun a b=>if a=l then M a b else M a b+c a * M l b)=F M:=by
 have key:∀ m,m <= n->F (fun a b=>if a=l then M a b else if a < m then M a b+c a * M l b else M a b)=F M:=by
  intro m
  induction m with
  | zero=>intro _;exact h.congr fun a b _ _=>by split <;> rfl
  | succ m ih =>
   intro hm;have h0:=ih (by omega)
   by_cases hml:m=l
   ·rw [<- h0];refine h.congr fun a b _ _=>?_
    by_cases ha:a=l
    ·simp [ha]
    ·rw [if_neg ha,if_neg ha]
     by_cases h1:a < m
     ·rw [if_pos h1,if_pos (by omega)]
     ·rw [if_neg h1,if_neg (by omega)]
   ·have h1:=h.addrow (fun a b=>if a=l then M a b else if a < m then M a b+c a * M l b else M a b) (k:=m) (l:=l) (by omega) hl hml (c m)
    rw [h0] at h1
    rw [<- h1];refine h.congr fun a b _ _=>?_
    unfold Zad
    by_cases ha:a=m
    ·subst ha;simp [hml]
    ·rw [if_neg ha]
     by_cases hal:a=l
     ·simp [hal]
     ·rw [if_neg hal]
      by_cases h1:a < m
      ·rw [if_pos (by omega)];simp [hal,h1]
      ·rw [if_neg (by omega)];simp [hal,h1]
 rw [<- key n (Nat.le_refl _)]
 exact h.congr fun a b ha hb=>by rw [if_pos ha]
end
theorem Zv2 (n:Nat) (A:Nat->Nat->Rat):∀ c,c <= n->∃ (U:Nat->Nat->Rat) (e:Rat),(∀ i j,i < n->j < c->j < i->U i j=0)/\∀ F,AltF n F->F A=e * F U:=by
 intro c
 induction c with
 | zero=>intro _;exact ⟨A,1,fun i j _ h=>by omega,fun F _=>by grind⟩
 | succ c ih =>
  intro hc;obtain ⟨U,e,h1,h2⟩:=ih (by omega)
  have clr:∀ V:Nat->Nat->Rat,(∀ i j,i < n->j < c->j < i->V i j=0)->V c c ≠ 0->∃ (U:Nat->Nat->Rat),(∀ i j,i < n->j < c+1->j < i->U i j=0)/\∀ F,AltF n F->F V=F U:=by
   intro V hV hp;refine ⟨fun a b=>if a=c then V a b else V a b+(if a < c then 0 else -(V a c / V c c)) * V c b,fun i j hi hj hji=>?_,fun F hF=>(hF.clear V (by omega) _).symm⟩
   by_cases hic:i=c
   ·subst hic;simp only [if_true];exact hV i j hi (by omega) hji
   ·simp only [if_neg hic]
    by_cases hlt:i < c
    ·rw [if_pos hlt,hV i j hi (by omega) hji];grind
    ·rw [if_neg hlt]
     by_cases hjc:j=c
     ·subst hjc;grind
     ·rw [hV i j hi (by omega) hji,hV c j (by omega) (by omega) (by omega)];grind
  by_cases hz:∀ i,c < i->i < n->U i c=0
  ·refine ⟨U,e,fun i j hi hj hji=>?_,h2⟩
   by_cases hjc:j=c
   ·subst hjc;exact hz i hji hi
   ·exact h1 i j hi (by omega) hji
  ·by_cases hp:U c c=0
   ·obtain ⟨k,hk1,hk2,hk3⟩:∃ k,c < k/\k < n/\U k c ≠ 0:=by
      refine Classical.byContradiction fun hn=>hz fun i h1 h2=>Classical.byContradiction fun h3=>hn ⟨i,h1,h2,h3⟩
    obtain ⟨V,hV1,hV2⟩:=clr (Zad (Zad U c (U k)) k (U c)) (fun i j hi hj hji=>by
     unfold Zad
     by_cases hik:i=k
     ·rw [if_pos hik];exact h1 c j (by omega) hj (by omega)
     ·rw [if_neg hik]
      by_cases hic:i=c
      ·rw [if_pos hic];exact h1 k j hk2 hj (by omega)
      ·rw [if_neg hic];exact h1 i j hi hj hji) (by
     unfold Zad
     rw [if_neg (by omega),if_pos rfl];exact hk3)
    refine ⟨V,-e,hV1,fun F hF=>?_⟩;rw [h2 F hF,<- hV2 F hF,hF.swap (by omega) hk2 (by omega)];grind
   ·obtain ⟨V,hV1,hV2⟩:=clr U h1 hp
    exact ⟨V,e,hV1,fun F hF=>by rw [h2 F hF,hV2 F hF]⟩
def Zbf (a b:Nat):Rat:=if a=b then 1 else 0
theorem AltF.tri {n:Nat} {F:(Nat->Nat->Rat)->Rat} (h:AltF n F):∀ t,t <= n->∀ U:Nat->Nat->Rat,(∀ i j,i < n->j < i->U i j=0)->(∀ i j,t <= i->i < n->U i j=Zbf i j)->F U=Zap t (fun i=>U i i) * F Zbf
 | 0,_,U,_,h2=>by
  rw [h.congr (N:=Zbf) (fun a b ha hb=>h2 a b (Nat.zero_le _) ha)];simp only [Zap];grind
 | t+1,ht,U,h1,h2=>by
  -- row t is cleared by the rows behind it
  have key:∀ c,c <= n->F (Zad U t (fun b=>if t < b/\b < c then 0 else U t b))=F U:=by
   intro c
   induction c with
   | zero=>intro _;refine h.congr fun a b _ _=>?_
           unfold Zad
           by_cases ha:a=t
           ·rw [if_pos ha,ha];simp only [Nat.not_lt_zero,and_false,if_false]
           ·rw [if_neg ha]
   | succ c ih =>
    intro hc;have h0:=ih (by omega)
    by_cases htc:t < c
    ·have h3:=h.addrow (Zad U t (fun b=>if t < b/\b < c then 0 else U t b)) (k:=t) (l:=c) (by omega) (by omega) (by omega) (-(U t c))
     rw [h0] at h3;rw [<- h3]
     refine h.congr fun a b _ hb=>?_
     unfold Zad
     by_cases ha:a=t
     ·subst ha
      simp only [if_true];rw [if_neg (by omega:¬ c=a),h2 c b (by omega) (by omega)];unfold Zbf
      by_cases hbc:c=b
      ·subst hbc;rw [if_pos (by omega),if_neg (by omega),if_pos rfl];grind
      ·rw [if_neg hbc]
       by_cases hb2:a < b/\b < c
       ·rw [if_pos (by omega),if_pos hb2];grind
       ·rw [if_neg (by omega),if_neg hb2];grind
     ·rw [if_neg ha,if_neg ha,if_neg ha]
    ·rw [<- h0]
     refine h.congr fun a b _ _=>?_
     unfold Zad
     by_cases ha:a=t
     ·rw [if_pos ha,if_pos ha]
      simp only [if_neg (show ¬ (t < b/\b < c+1) by omega),if_neg (show ¬ (t < b/\b < c) by omega)]
     ·rw [if_neg ha,if_neg ha]
  have hk:=key n (Nat.le_refl _);have hs:=h.lin U t (by omega) (Zbf t) (Zbf t) (U t t) 0
  have e1:F (Zad U t (fun b=>if t < b/\b < n then 0 else U t b))=F (Zad U t (fun b=>U t t * Zbf t b+0 * Zbf t b)):=by
   refine h.congr fun a b _ hb=>?_
   unfold Zad
   by_cases ha:a=t
   ·rw [if_pos ha,if_pos ha]
    unfold Zbf;simp only
    by_cases hb1:t=b
    ·subst hb1;rw [if_neg (by omega),if_pos rfl];grind
    ·rw [if_neg hb1]
     by_cases hb2:t < b
     ·rw [if_pos ⟨hb2,hb⟩];grind
     ·rw [if_neg (by omega),h1 t b (by omega) (by omega)];grind
   ·rw [if_neg ha,if_neg ha]
  have ih:=h.tri t (by omega) (Zad U t (Zbf t)) (fun i j hi hji=>by
   unfold Zad Zbf;split
   ·rw [if_neg (by omega)]
   ·exact h1 i j hi hji) (fun i j hti hi=>by
   unfold Zad;split
   ·rename_i h;rw [h]
   ·exact h2 i j (by omega) hi)
  rw [<- hk,e1,hs,ih];rw [Zap,Zch (f:=fun i=>Zad U t (Zbf t) i i) (g:=fun i=>U i i) (fun i hi=>by unfold Zad;rw [if_neg (by omega)])]
  grind
theorem Zql (n:Nat):Z1 n Zbf=1:=by
 rw [Zfj (fun a b _ h=>by unfold Zbf;rw [if_neg (by omega)])]
 have:∀ m,Zap m (fun i=>Zbf i i)=1:=by
  intro m
  induction m with
  | zero=>rfl
  | succ m ih=>simp only [Zap];rw [ih];unfold Zbf;rw [if_pos rfl];grind
 exact this n
theorem AltF.eq {n:Nat} {F:(Nat->Nat->Rat)->Rat} (h:AltF n F) (A:Nat->Nat->Rat):F A=Z1 n A * F Zbf:=by
 obtain ⟨U,e,h1,h2⟩:=Zv2 n A n (Nat.le_refl _);have h3:=h.tri n (Nat.le_refl _) U (fun i j hi hj=>h1 i j hi (by omega) hj) (fun i j h1 h2=>by omega);have h4:=(AltF.det n).tri n (Nat.le_refl _) U (fun i j hi hj=>h1 i j hi (by omega) hj) (fun i j h1 h2=>by omega);rw [h2 F h,h2 _ (AltF.det n),h3,h4,Zql];grind
def Zqs (k:Nat) (A B:Nat->Nat->Rat):Nat->Nat->Rat:=fun i j=>sumQ k (fun l=>A i l * B l j)
theorem det_mul (n:Nat) (A B:Nat->Nat->Rat):Z1 n (Zqs n A B)=Z1 n A * Z1 n B:=by
 have hF:AltF n (fun M=>Z1 n (Zqs n M B)):=by
  refine ⟨fun {M N} h=>Zau fun a b ha hb=>Zm fun l hl=>by rw [h a l ha hl],fun M k hk r s x y=>?_,fun M k l hk hl hne h=>Zhb hk hl hne (fun b=>Zm fun i hi=>by rw [h i])⟩
  have e:∀ q:Nat->Rat,Zqs n (Zad M k q) B=Zad (Zqs n M B) k (fun b=>sumQ n (fun l=>q l * B l b)):=by
   intro q
   funext a b
   unfold Zqs Zad
   by_cases ha:a=k
   ·rw [if_pos ha];refine Zm fun l _=>by rw [if_pos ha]
   ·rw [if_neg ha];refine Zm fun l _=>by rw [if_neg ha]
  rw [e,e,e,<- Zen (Zqs n M B) hk]
  congr 2
  funext b
  rw [<- Zep]
  exact Zm fun l _=>by grind
 have:=hF.eq A;rw [this]
 congr 1
 refine Zau fun a b ha hb=>?_
 unfold Zqs;rw [Zhe a ha (fun i _ hi=>by unfold Zbf;rw [if_neg (Ne.symm hi)];grind)];unfold Zbf;rw [if_pos rfl];grind
theorem Zou {n:Nat} (A:Nat->Nat->Rat) (x y:Nat->Rat) (h:∀ i,i < n->sumQ n (fun j=>A i j * x j)=y i) {k:Nat} (hk:k < n):Z1 n A * x k=Z1 n (fun a b=>if b=k then y a else A a b):=by
 have hT:Z1 n (fun a b=>if b=k then x a else Zbf a b)=x k:=by
  -- rows a: unit a+x a at column k;row k: x k at column k
  have h1:=(AltF.det n).lin (fun a b=>if b=k then x a else Zbf a b) k hk (Zbf k) (Zbf k) (x k) 0
  have e1:Zad (fun a b=>if b=k then x a else Zbf a b) k (fun b=>x k * Zbf k b+0 * Zbf k b)=(fun a b=>if b=k then x a else Zbf a b):=by
   funext a b
   unfold Zad
   by_cases ha:a=k
   ·subst ha;rw [if_pos rfl];unfold Zbf
    by_cases hb:b=a
    ·subst hb;simp only [if_true];grind
    ·rw [if_neg hb,if_neg (Ne.symm hb)];grind
   ·rw [if_neg ha]
  rw [e1] at h1;have h2:=Zl7 (n:=n) (fun a b=>Zbf a b) hk x
  have e2:Z1 n (Zad (fun a b=>if b=k then x a else Zbf a b) k (Zbf k))=Z1 n (fun a b=>if a=k then Zbf a b else Zbf a b+x a * Zbf k b):=by
   refine Zau fun a b _ _=>?_
   unfold Zad
   by_cases ha:a=k
   ·rw [if_pos ha,if_pos ha,ha]
   ·rw [if_neg ha,if_neg ha]
    unfold Zbf;simp only
    by_cases hb:b=k
    ·subst hb;rw [if_pos rfl,if_neg ha,if_pos rfl];grind
    ·rw [if_neg hb,if_neg (Ne.symm hb)];grind
  rw [e2,h2,Zql] at h1;rw [h1];grind
 have h3:=det_mul n A (fun a b=>if b=k then x a else Zbf a b);rw [hT] at h3;rw [<- h3]
 refine Zau fun a b ha hb=>?_
 unfold Zqs
 by_cases hbk:b=k
 ·rw [if_pos hbk,<- h a ha]
  exact Zm fun l _=>by simp only;rw [if_pos hbk]
 ·rw [if_neg hbk,Zhe b hb (fun i _ hi=>by simp only;rw [if_neg hbk];unfold Zbf;rw [if_neg hi];grind)]
  simp only;rw [if_neg hbk];unfold Zbf;rw [if_pos rfl];grind
end Go.Proofs.YtigdclhagmnopaaGreat
