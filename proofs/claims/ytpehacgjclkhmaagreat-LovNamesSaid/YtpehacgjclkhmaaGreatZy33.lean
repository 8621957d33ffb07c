/- Centroids: sums over a list of pixels, moments about a -/
import Derived.Test.YtpehacgjclkhmaaGreatZy32
import Derived.Test.YtpehacgjclkhmaaGreatZy31
import Derived.Test.YtpehacgjclkhmaaGreatZy25
set_option linter.unusedSimpArgs false
set_option linter.unusedVariables false
namespace Go.Proofs.YtpehacgjclkhmaaGreat
open Go.RowKit
theorem Zqf (a b : Int) (h : b ≠ 0) : (Rat.divInt a b).num.natAbs <= a.natAbs:=by
 rw [Rat.num_divInt];rw [Int.natAbs_ediv_of_dvd]
 ·refine Nat.le_trans (Nat.div_le_self _ _) ?_
  rw [Int.natAbs_mul]
  rcases Int.lt_or_gt_of_ne h with g | g
  ·rw [Int.sign_eq_neg_one_of_neg g];simp
  ·rw [Int.sign_eq_one_of_pos g];simp
 ·exact Int.dvd_trans (Int.gcd_dvd_right _ _) (Int.dvd_mul_left _ _)
theorem Zpk (a b : Int) (h : b ≠ 0) : (Rat.divInt a b).den <= b.natAbs:=by
 rw [Rat.den_divInt,if_neg h];exact Nat.div_le_self _ _
theorem Zof : 1 < pw 1:=by rw [Z8,Zb0];decide
def SmN (i j : Nat) (r : Rat) : Prop:=r.num.natAbs < pw i /\ r.den < pw j
theorem SmN.sm {i j : Nat} {r : Rat} (h : SmN i j r) (hi : i <= 1000) (hj : j <= 1000) : Sm r:=⟨Nat.lt_of_lt_of_le h.1 (Ze0 hi),Nat.lt_of_lt_of_le h.2 (Ze0 hj)⟩
theorem SmN.mono {i j i' j' : Nat} {r : Rat} (h : SmN i j r) (hi : i <= i') (hj : j <= j') : SmN i' j' r:=⟨Nat.lt_of_lt_of_le h.1 (Ze0 hi),Nat.lt_of_lt_of_le h.2 (Ze0 hj)⟩
theorem SmN.int {i : Nat} {n : Int} (hn : n.natAbs < pw i) : SmN i 1 (n : Rat):=⟨by simpa using hn,by simp only [Rat.den_intCast];exact Zof⟩
section
variable {B S n m : Nat}
end
section
variable {t : TypeId} {w w' : World} {base : Nat} {v : Value} {es : List WE}
end
section
variable {P : Program} (w : World)
end
section
variable {t : TypeId} {w w' : World} {base : Nat} {v : Value} {xs : List Int}
end
section
variable {P : Program} (w : World)
end
structure RS where
 A : Option Addr
 n : Nat
 c : Nat
def RS.val (r : RS) : Value:=.slice r.A r.n r.c
def Z3 : List RS -> List Value
 | []=>[]
 | e :: l=>.slice e.A e.n e.c :: Z3 l
def Zbj (es : List RS) : Array Value:=(Z3 es).toArray
def Zdn : RS:=⟨none,0,0⟩
theorem Zad (es : List RS) : (Z3 es).length = es.length * 1:=by
 induction es with
 | nil=>rfl
 | cons e l ih=>simp only [Z3,List.length_cons,ih];omega
theorem Zc3 (es : List RS) : Z3 es = es.map RS.val:=by
 induction es with
 | nil=>rfl
 | cons e l ih=>simp only [Z3,List.map_cons,ih];rfl
theorem Zmz {es : List RS} {i : Nat} {e : RS} (h : es[i]? = some e) : (Z3 es)[i]? = some (.slice e.A e.n e.c):=by
 rw [Zc3,List.getElem?_map,h];rfl
theorem Zku {es : List RS} {i : Nat} {e : RS} (h : es[i]? = some e) : (Zbj es)[i]? = some (.slice e.A e.n e.c):=by simpa [Zbj] using Zmz h
theorem Zik (es : List RS) : ∀ (i x : Nat),(Z3 es)[i]? ≠ some (limb x):=by
 intro i x;rw [Zc3,List.getElem?_map]
 cases es[i]? with
 | none=>simp
 | some e=>simp [RS.val]
theorem Zhk (es : List RS) : NoLimb (Zbj es):=fun i x=>by simpa [Zbj] using Zik es i x
theorem Zbh (es fs : List RS) : Z3 (es ++ fs) = Z3 es ++ Z3 fs:=by simp only [Zc3,List.map_append]
theorem Znb (fs : List RS) : ∀ u ∈ Z3 fs,u.oneCell' = true:=by
 intro u h;rw [Zc3] at h;obtain ⟨r,-,rfl⟩:=List.mem_map.1 h
 rfl
theorem Ze2 (k : Nat) : (Builtin.zeroCells #[.slice none 0 0] k).toList = Z3 (List.replicate k Zdn):=by
 rw [Zc3];unfold Builtin.zeroCells
 apply List.ext_getElem?
 intro i
 by_cases h : i < k
 ·simp [h,Zdn,RS.val,List.getElem?_replicate,Nat.mod_one]
 ·simp [h,List.getElem?_replicate]
def RowS (t : TypeId) (w : World) (base : Nat) (v : Value) (es : List RS) : Prop:=
 (v = .slice none 0 0 /\ es = []) \/ ∃ g sp,v = .slice (some ⟨g,0,none⟩) es.length (es.length + sp) /\ base <= g /\ es.length + sp <= maxLen /\ Blk w g t (Zbj (es ++ List.replicate sp Zdn))
section
variable {t : TypeId} {w w' : World} {base : Nat} {v : Value} {es : List RS}
theorem RowS.own (h : RowS t w base v es) : w.ownsRow base t 1 v es.length (Z3 es):=by
 refine ⟨Zad es,?_⟩
 rcases h with ⟨h1,rfl⟩ | ⟨g,sp,h1,h2,h3,h4⟩
 ·exact .inl ⟨h1,rfl⟩
 ·refine .inr ⟨g,_,_,h1,h2,h4,Nat.le_add_right _ _,h3,?_,?_⟩
  ·simp [Zbj,Zad]
  ·simp only [Zbj]
   rw [Zbh,<- Zad es];exact List.take_left
theorem RowS.row_ge (h : RowS t w base v es) : ∀ k,v.ownBlock = some k -> base <= k:=fun k hk=>(h.own.lt k hk).1
theorem RowS.kept (h : RowS t w base v es) (hb : Below w.heap.size w w') : RowS t w' base v es:=by
 rcases h with h | ⟨g,sp,h1,h2,h3,h4⟩
 ·exact .inl h
 ·exact .inr ⟨g,sp,h1,h2,h3,Zc hb h4⟩
theorem RowS.keep (h : RowS t w base v es) (hg : w.grownBy w' v.ownBlock) {A : Option Addr} {n c : Nat} {l : List Nat} (hL : Lim w A n c l) : Lim w' A n c l:=by
 refine ⟨hL.1,hL.2.1,hL.2.2.1,hL.2.2.2.1,fun hn=>?_⟩;obtain ⟨b,o,e,hc⟩:=hL.2.2.2.2 hn;refine ⟨b,o,e,fun k hk=>?_⟩;rw [<- hc k hk];refine World.cell?_of_block (hg.block b (Zr (hc k hk)) (fun e'=>?_))
 rcases h with ⟨rfl,_⟩ | ⟨g,sp,rfl,_,_,h4⟩
 ·cases e'
 ·have hbg : b = g:=by simpa [Value.ownBlock] using e'
  subst hbg;have h1:=hc k hk;rw [h4.cell] at h1;exact Zhk _ _ _ h1
end
section
variable {P : Program} (w : World)
theorem Zh5 (base : Nat) (t ty e : TypeId) (i : TypeInfo) (ht : P.underlying t = some (.slice e)) (hi : P.info? e = some i) (hz : i.zero = some (.slice none 0 0))
    (hs : i.size = 1) (hby : i.bytes = 24) (v : Value) (es : List RS) (hown : RowS e w base v es)
    (B : Nat) (A : Option Addr) (m c : Nat) (fs : List RS) (hr : Reads w B 1 A m (Z3 fs)) (hm : fs.length = m) (h63 : es.length + m <= 1000) (hbase : base <= w.heap.size) :
    ∃ v' w',(Builtin.append_ #[t,t] ty #[v,.slice A m c]).run P w = .ok v' w' /\ RowS e w' base v' (es ++ fs) /\ w.grownBy w' v.ownBlock:=by
 rcases Nat.eq_zero_or_pos m with h0 | h0
 ·subst h0
  obtain rfl : fs = []:=List.eq_nil_of_length_eq_zero hm;rw [List.append_nil]
  rcases A with _ | ad
  ·exact ⟨v,w,Zbi w base t ty e i 1 ht hi v _ _ hown.own c,hown,World.grownBy.refl w _⟩
  ·have hf:=run_firstCells_some (P:=P) w i.size 0 ad 0 c [] (by simp) (by simp)
   rcases hown with ⟨rfl,rfl⟩ | ⟨g,sp,rfl,h2,h3,h4⟩
   ·refine ⟨.slice none 0 0,w,?_,.inl ⟨rfl,rfl⟩,World.grownBy.refl w _⟩
    simp [Builtin.append_,run_underlying ht,sizeOf,typeInfo,hi,Builtin.lenOf,Builtin.firstCells,loadCells,loadCellsFrom]
   ·refine ⟨_,w,?_,.inr ⟨g,sp,rfl,h2,h3,h4⟩,World.grownBy.refl w _⟩
    simp [Builtin.append_,run_underlying ht,sizeOf,typeInfo,hi,Builtin.lenOf,Builtin.firstCells,loadCells,loadCellsFrom,storeCells]
 ·obtain ⟨ad,rfl,_,hc⟩:=hr.2 h0
  have hl : (Z3 fs).length = m * i.size:=by rw [Zad,hm,hs]
  have hle : es.length * i.size = (Z3 es).length:=by rw [Zad,hs]
  rcases hown with ⟨rfl,rfl⟩ | ⟨g,sp,rfl,h2,h3,h4⟩
  ·have hrun:=run_append_nil (P:=P) w t ty e i _ ht hi hz ad m c (Z3 fs) hl hc h0 (by omega) (by rw [hby];omega)
   have hge:=grownCap_ge w m 0 e;have hcm:=grownCap_le_maxLen w m 0 e (by unfold maxLen;simp only [List.length_nil] at h63;omega);refine ⟨_,_,hrun,.inr ⟨w.heap.size,grownCap w m 0 e - m,?_,hbase,?_,?_⟩,⟨rfl,rfl,rfl,by simp,fun k hk _=>Below.heap_alloc w.drew _ k hk⟩⟩
   ·rw [List.nil_append,hm,Nat.add_sub_cancel' hge]
   ·rw [List.nil_append,hm,Nat.add_sub_cancel' hge];exact hcm
   ·have:=heap_alloc_new w.drew (.cells ((Z3 fs).toArray ++ Builtin.zeroCells (Value.slice none 0 0).cells (grownCap w m 0 e - m)) e)
    unfold Blk;refine this.trans ?_
    congr 1
    have hx : (Z3 fs).toArray ++ Builtin.zeroCells (Value.slice none 0 0).cells (grownCap w m 0 e - m) = Zbj ([] ++ fs ++ List.replicate (grownCap w m 0 e - m) Zdn):=by
     apply Array.toList_inj.1
     rw [Array.toList_append,show (Value.slice none 0 0).cells = #[.slice none 0 0] from rfl,Ze2]
     simp [Zbj,Zbh]
    rw [hx]
  ·by_cases hroom : m <= sp
   ·have hrun:=run_append_room (P:=P) w t ty e i ht hi g es.length (es.length + sp) _ h4 ad m c (Z3 fs) hl hc (Znb fs) (by omega) (by rw [hle,Zad,Zad];simp [Zbj,Zad];omega)
    refine ⟨_,_,hrun,.inr ⟨g,sp - m,?_,h2,?_,?_⟩,⟨rfl,rfl,rfl,by simp [World.setRow],fun k _ hk=>setRow_other w g k _ (fun e'=>hk (by simp [Value.ownBlock,e']))⟩⟩
    ·rw [List.length_append,hm,show es.length + m + (sp - m) = es.length + sp by omega]
    ·rw [List.length_append,hm];omega
    ·refine (setRow_heap w g _ _ e _ h4).trans ?_
     congr 2
     unfold Zbj
     congr 1
     rw [hle]
     have hrep : List.replicate sp Zdn = List.replicate m Zdn ++ List.replicate (sp - m) Zdn:=by rw [List.replicate_append_replicate];congr 1;omega
     have hlm : (Z3 fs).length = (Z3 (List.replicate m Zdn)).length:=by rw [Zad,Zad,hm,List.length_replicate]
     simp only [Zbh];rw [List.take_left,hlm,<- List.length_append,hrep,Zbh,<- List.append_assoc (Z3 es),List.drop_left,List.append_assoc]
   ·have holds : ∀ j u,(Z3 es)[j]? = some u -> w.cell? ((⟨g,0,none⟩ : Addr).add j) = some u:=fun j u hu=>by
      rw [Zg,Nat.zero_add,h4.cell];simp only [Zbj,List.getElem?_toArray,Zbh];rw [List.getElem?_append_left (by rw [List.getElem?_eq_some_iff] at hu;exact hu.1)];exact hu
    have hrun:=run_append_grow (P:=P) w t ty e i _ ht hi hz ⟨g,0,none⟩ es.length (es.length + sp) (Z3 es) hle.symm holds ad m c (Z3 fs) hl hc (by omega) (by omega) (growslice_fits (by omega) (by rw [hby];omega));have hge:=grownCap_ge w (es.length + m) (es.length + sp) e;have hcm:=grownCap_le_maxLen w (es.length + m) (es.length + sp) e (by unfold maxLen;omega);refine ⟨_,_,hrun,.inr ⟨w.heap.size,grownCap w (es.length + m) (es.length + sp) e - (es.length + m),?_,hbase,?_,?_⟩,⟨rfl,rfl,rfl,by simp,fun k hk _=>Below.heap_alloc w.drew _ k hk⟩⟩
    ·rw [List.length_append,hm,Nat.add_sub_cancel' hge]
    ·rw [List.length_append,hm,Nat.add_sub_cancel' hge];exact hcm
    ·have:=heap_alloc_new w.drew (.cells ((Z3 es).toArray ++ (Z3 fs).toArray ++ Builtin.zeroCells (Value.slice none 0 0).cells (grownCap w (es.length + m) (es.length + sp) e - (es.length + m))) e)
     unfold Blk;refine this.trans ?_
     congr 1
     have hx : (Z3 es).toArray ++ (Z3 fs).toArray ++ Builtin.zeroCells (Value.slice none 0 0).cells (grownCap w (es.length + m) (es.length + sp) e - (es.length + m)) = Zbj (es ++ fs ++ List.replicate (grownCap w (es.length + m) (es.length + sp) e - (es.length + m)) Zdn):=by
      apply Array.toList_inj.1
      rw [Array.toList_append,Array.toList_append,show (Value.slice none 0 0).cells = #[.slice none 0 0] from rfl,Ze2]
      simp [Zbj,Zbh]
     rw [hx]
end
end Go.Proofs.YtpehacgjclkhmaaGreat
