/- An append of numbers, and whose block it yields; what the -/
import Derived.Test.YtigdclhagmnopaaGreatZq28
set_option maxRecDepth 100000
set_option maxHeartbeats 16000000
set_option linter.unusedSimpArgs false
set_option linter.unusedVariables false
namespace Go.Proofs.YtigdclhagmnopaaGreat
open Go.RowKit
theorem Zet {P:Program} {ops:Array Oper} {Q:Exit->Act->World->Prop} {md:Region.Mode} {L:List Nat} {S:World->Prop} {i j:Nat} {oi oj:Oper} {fuel:Nat} {listed:Array Bool} {a:Act} {w:World} (hi:ops[i]?=some oi) (hj:ops[j]?=some oj) (hr:Region.ready md ops listed=[i,j])
    (h1:∀ K':Act->World->Prop,Shut (∀ a w,(Zc0 L (listed.setIfInBounds i true)=true->S w)->Zal P md ops Q L S fuel (listed.setIfInBounds i true) a w->K' a w)->if Region.wanted oi (yielded ops a.tmps)=true then Oper.wp P oi a w K' Q else K' (a.put oi.dst undef) w)
    (h2:∀ K':Act->World->Prop,Shut (∀ a w,(Zc0 L (listed.setIfInBounds j true)=true->S w)->Zal P md ops Q L S fuel (listed.setIfInBounds j true) a w->K' a w)->if Region.wanted oj (yielded ops a.tmps)=true then Oper.wp P oj a w K' Q else K' (a.put oj.dst undef) w) :
    Zal P md ops Q L S (fuel+1) listed a w:=
 ⟨(fun h0=>by rw [h0] at hr;cases hr),fun k hk=>by
  rw [hr] at hk
  rcases List.mem_cons.1 hk with e | e
  ·subst e;exact wpOp_step hi (fun K' hK=>h1 K' (fun a w hS hW=>hK a w ⟨hS,hW⟩))
  ·rw [List.mem_singleton] at e;subst e;exact wpOp_step hj (fun K' hK=>h2 K' (fun a w hS hW=>hK a w ⟨hS,hW⟩))⟩
section
variable {P:Program} (w:World)
theorem Zko (base:Nat) (t ty e:TypeId) (i:TypeInfo) (ht:P.underlying t=some (.slice e)) (hi:P.info? e=some i) (hz:i.zero=some (.agg #[.bool false,.slice none 0 0]))
    (hs:i.size=2) (hby:i.bytes=32) (v:Value) (es:List WE) (hown:RowW e w base v es)
    (B:Nat) (A:Option Addr) (m c:Nat) (fs:List WE) (hr:Reads w B 2 A m (Zan fs)) (hm:fs.length=m) (h63:es.length+m <= 1000) (hbase:base <= w.heap.size) :
    ∃ v' w',(Builtin.append_ #[t,t] ty #[v,.slice A m c]).run P w=.ok v' w'/\RowW e w' base v' (es ++ fs)/\w.grownBy w' v.ownBlock/\(v'.ownBlock=v.ownBlock \/ ∀ k,v'.ownBlock=some k->w.heap.size <= k):=by
 rcases Nat.eq_zero_or_pos m with h0 | h0
 ·subst h0
  obtain rfl:fs=[]:=List.eq_nil_of_length_eq_zero hm;rw [List.append_nil]
  rcases A with _ | ad
  ·exact ⟨v,w,Zb6 w base t ty e i 2 ht hi v _ _ hown.own c,hown,World.grownBy.refl w _,.inl rfl⟩
  ·have hf:=run_firstCells_some (P:=P) w i.size 0 ad 0 c [] (by simp) (by simp)
   rcases hown with ⟨rfl,rfl⟩ | ⟨g,sp,rfl,h2,h3,h4⟩
   ·refine ⟨.slice none 0 0,w,?_,.inl ⟨rfl,rfl⟩,World.grownBy.refl w _,.inl rfl⟩
    simp [Builtin.append_,run_underlying ht,sizeOf,typeInfo,hi,Builtin.lenOf,Builtin.firstCells,loadCells,loadCellsFrom]
   ·refine ⟨_,w,?_,.inr ⟨g,sp,rfl,h2,h3,h4⟩,World.grownBy.refl w _,.inl rfl⟩
    simp [Builtin.append_,run_underlying ht,sizeOf,typeInfo,hi,Builtin.lenOf,Builtin.firstCells,loadCells,loadCellsFrom,storeCells]
 ·obtain ⟨ad,rfl,_,hc⟩:=hr.2 h0
  have hl:(Zan fs).length=m * i.size:=by rw [Za6,hm,hs]
  have hle:es.length * i.size=(Zan es).length:=by rw [Za6,hs]
  rcases hown with ⟨rfl,rfl⟩ | ⟨g,sp,rfl,h2,h3,h4⟩
  ·have hrun:=run_append_nil (P:=P) w t ty e i _ ht hi hz ad m c (Zan fs) hl hc h0 (by omega) (by rw [hby];omega)
   have hge:=grownCap_ge w m 0 e;have hcm:=grownCap_le_maxLen w m 0 e (by unfold maxLen;simp only [List.length_nil] at h63;omega);refine ⟨_,_,hrun,.inr ⟨w.heap.size,grownCap w m 0 e - m,?_,hbase,?_,?_⟩,⟨rfl,rfl,rfl,by simp,fun k hk _=>Below.heap_alloc w.drew _ k hk⟩,.inr (fun k hk=>by first | (simp [Value.ownBlock] at hk;omega) | (cases hk;exact Nat.le_refl _))⟩
   ·rw [List.nil_append,hm,Nat.add_sub_cancel' hge]
   ·rw [List.nil_append,hm,Nat.add_sub_cancel' hge];exact hcm
   ·have:=heap_alloc_new w.drew (.cells ((Zan fs).toArray ++ Builtin.zeroCells (Value.agg #[.bool false,.slice none 0 0]).cells (grownCap w m 0 e - m)) e)
    unfold Blk;refine this.trans ?_
    congr 1
    have hx:(Zan fs).toArray ++ Builtin.zeroCells (Value.agg #[.bool false,.slice none 0 0]).cells (grownCap w m 0 e - m)=Zbl ([] ++ fs ++ List.replicate (grownCap w m 0 e - m) Zcj):=by
     apply Array.toList_inj.1
     rw [Array.toList_append,show (Value.agg #[.bool false,.slice none 0 0]).cells=#[.bool false,.slice none 0 0] from rfl,Zh1]
     simp [Zbl,Zcm]
    rw [hx]
  ·by_cases hroom:m <= sp
   ·have hrun:=run_append_room (P:=P) w t ty e i ht hi g es.length (es.length+sp) _ h4 ad m c (Zan fs) hl hc (Zr1 fs) (by omega) (by rw [hle,Za6,Za6];simp [Zbl,Za6];omega)
    refine ⟨_,_,hrun,.inr ⟨g,sp - m,?_,h2,?_,?_⟩,⟨rfl,rfl,rfl,by simp [World.setRow],fun k _ hk=>setRow_other w g k _ (fun e'=>hk (by simp [Value.ownBlock,e']))⟩,.inl rfl⟩
    ·rw [List.length_append,hm,show es.length+m+(sp - m)=es.length+sp by omega]
    ·rw [List.length_append,hm];omega
    ·refine (setRow_heap w g _ _ e _ h4).trans ?_
     congr 2
     unfold Zbl
     congr 1
     rw [hle]
     have hrep:List.replicate sp Zcj=List.replicate m Zcj ++ List.replicate (sp - m) Zcj:=by rw [List.replicate_append_replicate];congr 1;omega
     have hlm:(Zan fs).length=(Zan (List.replicate m Zcj)).length:=by rw [Za6,Za6,hm,List.length_replicate]
     simp only [Zcm];rw [List.take_left,hlm,<- List.length_append,hrep,Zcm,<- List.append_assoc (Zan es),List.drop_left,List.append_assoc]
   ·have holds:∀ j u,(Zan es)[j]?=some u->w.cell? ((⟨g,0,none⟩:Addr).add j)=some u:=fun j u hu=>by
      rw [Zh,Nat.zero_add,h4.cell];simp only [Zbl,List.getElem?_toArray,Zcm];rw [List.getElem?_append_left (by rw [List.getElem?_eq_some_iff] at hu;exact hu.1)];exact hu
    have hrun:=run_append_grow (P:=P) w t ty e i _ ht hi hz ⟨g,0,none⟩ es.length (es.length+sp) (Zan es) hle.symm holds ad m c (Zan fs) hl hc (by omega) (by omega) (growslice_fits (by omega) (by rw [hby];omega));have hge:=grownCap_ge w (es.length+m) (es.length+sp) e;have hcm:=grownCap_le_maxLen w (es.length+m) (es.length+sp) e (by unfold maxLen;omega);refine ⟨_,_,hrun,.inr ⟨w.heap.size,grownCap w (es.length+m) (es.length+sp) e - (es.length+m),?_,hbase,?_,?_⟩,⟨rfl,rfl,rfl,by simp,fun k hk _=>Below.heap_alloc w.drew _ k hk⟩,.inr (fun k hk=>by first | (simp [Value.ownBlock] at hk;omega) | (cases hk;exact Nat.le_refl _))⟩
    ·rw [List.length_append,hm,Nat.add_sub_cancel' hge]
    ·rw [List.length_append,hm,Nat.add_sub_cancel' hge];exact hcm
    ·have:=heap_alloc_new w.drew (.cells ((Zan es).toArray ++ (Zan fs).toArray ++ Builtin.zeroCells (Value.agg #[.bool false,.slice none 0 0]).cells (grownCap w (es.length+m) (es.length+sp) e - (es.length+m))) e)
     unfold Blk;refine this.trans ?_
     congr 1
     have hx:(Zan es).toArray ++ (Zan fs).toArray ++ Builtin.zeroCells (Value.agg #[.bool false,.slice none 0 0]).cells (grownCap w (es.length+m) (es.length+sp) e - (es.length+m))=Zbl (es ++ fs ++ List.replicate (grownCap w (es.length+m) (es.length+sp) e - (es.length+m)) Zcj):=by
      apply Array.toList_inj.1
      rw [Array.toList_append,Array.toList_append,show (Value.agg #[.bool false,.slice none 0 0]).cells=#[.bool false,.slice none 0 0] from rfl,Zh1]
      simp [Zbl,Zcm]
     rw [hx]
theorem Zcg {o:Oper} {a:Act} {K:Act->World->Prop} {Q:Exit->Act->World->Prop} (s x:Operand) (t:TypeId)
    (ho:o.op=.call { callee:=.builtin .append,args:=#[s,x],argTypes:=#[t,t] })
    (base:Nat) (e:TypeId) (i:TypeInfo) (ht:P.underlying t=some (.slice e)) (hi:P.info? e=some i) (hz:i.zero=some (.agg #[.bool false,.slice none 0 0])) (hsi:i.size=2) (hby:i.bytes=32)
    (v:Value) (xs:List Int) (hs:a.eval s=v) (hown:OwnP e w base v xs)
    (B:Nat) (A:Option Addr) (m c:Nat) (fs:List WE) (hx:a.eval x=.slice A m c) (hr:Reads w B 2 A m (Zan fs)) (hm:fs.length=m) (hfs:∀ e ∈ fs,Lim w e.A e.n e.c e.l/\e.ok=true)
    (h63:xs.length+m <= 1000) (hbase:base <= w.heap.size)
    (h:∀ v' w',OwnP e w' base v' (xs ++ fs.map WE.num)->w.grownBy w' v.ownBlock->(∀ (A:Option Addr) (n c:Nat) (l:List Nat),Lim w A n c l->Lim w' A n c l)->(v'.ownBlock=v.ownBlock \/ ∀ k,v'.ownBlock=some k->w.heap.size <= k)->K (a.put o.dst v') w'):o.wp P a w K Q:=by
 obtain ⟨es,h1,h2,rfl⟩:=hown;rw [List.length_map] at h63;obtain ⟨v',w',hrun,h3,h4,h5⟩:=Zko (P:=P) w base t o.type e i ht hi hz hsi hby v es h1 B A m c fs hr hm h63 hbase;unfold Oper.wp execOp;simp only [ho,resolve,invoke,builtin,Sem.run_bind,Sem.run_pure,Result.andThen_ok,List.map_toArray,List.map_cons,List.map_nil,hs,hx,hrun]
 have hk:∀ (A:Option Addr) (n c:Nat) (l:List Nat),Lim w A n c l->Lim w' A n c l:=fun _ _ _ _ hL=>h1.keep h4 hL
 refine h v' w' ⟨es ++ fs,h3,fun e he=>?_,by rw [List.map_append]⟩ h4 hk h5
 rcases List.mem_append.1 he with he | he
 ·exact ⟨hk _ _ _ _ (h2 e he).1,(h2 e he).2⟩
 ·exact ⟨hk _ _ _ _ (hfs e he).1,(hfs e he).2⟩
end
attribute [local go_sem] Zh
def MatOZ (tS tF:TypeId) (w:World) (base:Nat) (v:Value) (L:List RZ):Prop:=
 RowS tS w base v (L.map RZ.rs)/\(∀ r ∈ L,(POwn tF w r.g r.q/\r.q.length <= maxLen)/\base <= r.g)/\(L.map RZ.g).Nodup
section
variable {tS tF:TypeId} {w w':World} {base:Nat} {v v':Value} {L:List RZ}
theorem MatOZ.nil (tS tF:TypeId) (w:World) (base:Nat):MatOZ tS tF w base (.slice none 0 0) []:=⟨.inl ⟨rfl,rfl⟩,fun r hr=>(by cases hr),List.nodup_nil⟩
theorem MatOZ.kept (h:MatOZ tS tF w base v L) (hb:Below w.heap.size w w'):MatOZ tS tF w' base v L:=⟨h.1.kept hb,fun r hr=>⟨⟨(h.2.1 r hr).1.1.below hb,(h.2.1 r hr).1.2⟩,(h.2.1 r hr).2⟩,h.2.2⟩
theorem POwn.grown {g:Nat} {qs:List Int} (h:POwn tF w g qs) (hg:w.grownBy w' v.ownBlock) (hne:v.ownBlock ≠ some g) (hk:∀ (A:Option Addr) (n c:Nat) (l:List Nat),Lim w A n c l->Lim w' A n c l):POwn tF w' g qs:=by
 obtain ⟨es,h1,h2,h3⟩:=h;exact ⟨es,(hg.block g h1.lt (fun e=>hne (by first | exact e | exact e.symm))).trans h1,fun e he=>⟨hk _ _ _ _ (h2 e he).1,(h2 e he).2⟩,h3⟩
theorem MatOZ.snoc (h:MatOZ tS tF w base v L) (hne:tS ≠ tF) {r:RZ} (hr:POwn tF w r.g r.q/\r.q.length <= maxLen) (hbr:base <= r.g) (hnew:∀ s ∈ L,s.g ≠ r.g) (h1:RowS tS w' base v' (L.map RZ.rs ++ [r.rs])) (hg:w.grownBy w' v.ownBlock)
    (hk:∀ (A:Option Addr) (n c:Nat) (l:List Nat),Lim w A n c l->Lim w' A n c l):MatOZ tS tF w' base v' (L ++ [r]):=by
 have ow:∀ {s:RZ},POwn tF w s.g s.q->v.ownBlock ≠ some s.g:=fun hs=>by obtain ⟨es,q1,-,-⟩:=hs;exact h.1.ownType q1 hne
 refine ⟨by rw [List.map_append];exact h1,fun s hs=>?_,?_⟩
 ·rcases List.mem_append.1 hs with hs | hs
  ·have:=h.2.1 s hs
   exact ⟨⟨this.1.1.grown hg (ow this.1.1) hk,this.1.2⟩,this.2⟩
  ·rw [List.mem_singleton] at hs
   subst hs;exact ⟨⟨hr.1.grown hg (ow hr.1) hk,hr.2⟩,hbr⟩
 ·rw [List.map_append,List.nodup_append]
  refine ⟨h.2.2,by simp,fun a ha b hb=>?_⟩;obtain ⟨s,hs,rfl⟩:=List.mem_map.1 ha;simp only [List.map_cons,List.map_nil,List.mem_singleton] at hb;rw [hb];exact hnew s hs
theorem MatOZ.mat (h:MatOZ tS tF w base v L) (hne:tS ≠ tF) (hl:L ≠ []):∃ go cap,v=.slice (some ⟨go,0,none⟩) L.length cap/\L.length <= cap/\cap <= maxLen/\base <= go/\MatZ tS tF w go L/\∀ r ∈ L,base <= r.g:=by
 rcases h.1 with ⟨-,h2⟩ | ⟨go,sp,rfl,h2,h3,h4⟩
 ·exact absurd (List.map_eq_nil_iff.1 h2) hl
 ·refine ⟨go,_,by rw [List.length_map],by rw [List.length_map];omega,h3,h2,⟨⟨_,h4⟩,fun r hr=>(h.2.1 r hr).1,?_⟩,fun r hr=>(h.2.1 r hr).2⟩
  refine List.nodup_cons.2 ⟨fun hm=>?_,h.2.2⟩;obtain ⟨r,hr,e⟩:=List.mem_map.1 hm;obtain ⟨es,q1,-,-⟩:=(h.2.1 r hr).1.1;rw [e] at q1;exact hne (h4.type q1)
end
section
variable {tS tW t':TypeId} {w:World} {base:Nat} {v:Value} {L:List RZ} {xs:List Int} {rs:List RS}
theorem RowS.isSlice (h:RowS tS w base v rs):∃ A n c,v=.slice A n c:=by
 rcases h with ⟨rfl,_⟩ | ⟨g,sp,rfl,_⟩
 ·exact ⟨_,_,_,rfl⟩
 ·exact ⟨_,_,_,rfl⟩
theorem RowS.mono {b:Nat} (h:RowS tS w base v rs) (hb:b <= base):RowS tS w b v rs:=by
 rcases h with h | ⟨g,sp,h1,h2,h3⟩
 ·exact .inl h
 ·exact .inr ⟨g,sp,h1,Nat.le_trans hb h2,h3⟩
theorem MatOZ.mono {b:Nat} (h:MatOZ tS tW w base v L) (hb:b <= base):MatOZ tS tW w b v L:=⟨h.1.mono hb,fun r hr=>⟨(h.2.1 r hr).1,Nat.le_trans hb (h.2.1 r hr).2⟩,h.2.2⟩
theorem OwnP.isSlice (h:OwnP tW w base v xs):∃ A n c,v=.slice A n c:=by
 obtain ⟨A,c,e,-⟩:=h.poly;exact ⟨_,_,_,e⟩
theorem OwnP.mono {b:Nat} (h:OwnP tW w base v xs) (hb:b <= base):OwnP tW w b v xs:=by
 obtain ⟨es,h1,h2,h3⟩:=h;refine ⟨es,?_,h2,h3⟩
 rcases h1 with h | ⟨g,sp,h1,h2,h3⟩
 ·exact .inl h
 ·exact .inr ⟨g,sp,h1,Nat.le_trans hb h2,h3⟩
theorem RowS.far {g:Nat} (h:RowS tS w base v rs) (hg:g < base) (i:Nat) (u:Value):RowS tS (w.setCell ⟨g,i,none⟩ u) base v rs:=by
 rcases h with h | ⟨g',sp,h1,h2,h3,h4⟩
 ·exact .inl h
 ·exact .inr ⟨g',sp,h1,h2,h3,h4.far (p:=⟨g,i,none⟩) (by show g' ≠ g;omega) u⟩
theorem MatOZ.far {g:Nat} {cs:Array Value} (h:MatOZ tS tW w base v L) (hg:g < base) (hb:Blk w g t' cs) (hcs:NoLimb cs) (i:Nat) (u:Value):MatOZ tS tW (w.setCell ⟨g,i,none⟩ u) base v L:=by
 refine ⟨h.1.far hg i u,fun r hr=>⟨⟨?_,(h.2.1 r hr).1.2⟩,(h.2.1 r hr).2⟩,h.2.2⟩;have hb2:=(h.2.1 r hr).2;obtain ⟨es,q1,q2,q3⟩:=(h.2.1 r hr).1.1;exact ⟨es,q1.far (p:=⟨g,i,none⟩) (by show r.g ≠ g;omega) u,fun e he=>⟨(q2 e he).1.set_box hb hcs i u,(q2 e he).2⟩,q3⟩
theorem OwnP.far {g:Nat} {cs:Array Value} (h:OwnP tW w base v xs) (hg:g < base) (hb:Blk w g t' cs) (hcs:NoLimb cs) (i:Nat) (u:Value):OwnP tW (w.setCell ⟨g,i,none⟩ u) base v xs:=by
 obtain ⟨es,h1,h2,h3⟩:=h;refine ⟨es,?_,fun e he=>⟨(h2 e he).1.set_box hb hcs i u,(h2 e he).2⟩,h3⟩
 rcases h1 with h | ⟨g',sp,h1,h2,h3,h4⟩
 ·exact .inl h
 ·exact .inr ⟨g',sp,h1,h2,h3,h4.far (p:=⟨g,i,none⟩) (by show g' ≠ g;omega) u⟩
theorem Zkt {x y:Value} (hx:∀ k,x ≠ limb k) (hy:∀ k,y ≠ limb k):NoLimb #[x,y]:=fun i k=>by
 match i with
 | 0=>simpa using hx k
 | 1=>simpa using hy k
 | i+2=>simp
theorem Zeo {g:Nat} {x0 y0 x y:Value} {base2:Nat} (hb:Blk w g t' #[x0,y0]) (h0:∀ k,x0 ≠ limb k) (h1:∀ k,y0 ≠ limb k) (hx:∀ k,x ≠ limb k) (hM:MatOZ tS tW w base v L) (hg:g < base) {v2:Value} (hP:OwnP tW w base2 v2 xs) (hg2:g < base2) :
    Blk ((w.setCell ⟨g,0,none⟩ x).setCell ⟨g,1,none⟩ y) g t' #[x,y]/\MatOZ tS tW ((w.setCell ⟨g,0,none⟩ x).setCell ⟨g,1,none⟩ y) base v L/\OwnP tW ((w.setCell ⟨g,0,none⟩ x).setCell ⟨g,1,none⟩ y) base2 v2 xs:=by
 have hb1:Blk (w.setCell ⟨g,0,none⟩ x) g t' #[x,y0]:=hb.set_ 0 x;have hb2:Blk ((w.setCell ⟨g,0,none⟩ x).setCell ⟨g,1,none⟩ y) g t' #[x,y]:=hb1.set_ 1 y;exact ⟨hb2,(hM.far hg hb (Zkt h0 h1) 0 x).far hg hb1 (Zkt hx h1) 1 y,(hP.far hg2 hb (Zkt h0 h1) 0 x).far hg2 hb1 (Zkt hx h1) 1 y⟩
end
section
variable {tS tW tG:TypeId} {w w' W0:World} {g3 gd gO base:Nat} {v1 v1' v2 v2':Value} {L:List RZ} {xs q:List Int} {dn:Bool} {dA:Option Addr} {dk dc:Nat} {D:Int}
def EnvW (tS tW tG:TypeId) (w:World) (g3 gd gO base:Nat) (v1 v2:Value) (L:List RZ) (xs:List Int) (dn:Bool) (dA:Option Addr) (dk dc:Nat) (D:Int) (q:List Int):Prop:=
 MatOZ tS tW w base v1 L/\(POwn tW w gO q/\q.length <= maxLen)/\OwnP tW w base v2 xs/\Blk w gd tW #[.bool dn,.slice dA dk dc]/\Wd w dn dA dk dc D/\Blk w g3 tG #[v1,v2]/\(g3 < base/\base <= gO)/\(∀ s ∈ L,s.g ≠ gO)/\v2.ownBlock ≠ some gO/\(∀ s ∈ L,v2.ownBlock ≠ some s.g)
theorem EnvW.below (h:EnvW tS tW tG w g3 gd gO base v1 v2 L xs dn dA dk dc D q) (hb:Below w.heap.size w w'):EnvW tS tW tG w' g3 gd gO base v1 v2 L xs dn dA dk dc D q:=by
 obtain ⟨h1,h2,h3,h4,h5,h6,h7⟩:=h;exact ⟨h1.kept hb,⟨h2.1.below hb,h2.2⟩,h3.kept hb,Zc hb h4,h5.below hb,Zc hb h6,h7⟩
def EnvA (tS tW tG:TypeId) (w:World) (g3 gd base:Nat) (v1 v2 v1':Value) (L:List RZ) (xs:List Int) (dn:Bool) (dA:Option Addr) (dk dc:Nat) (D:Int):Prop:=
 MatOZ tS tW w base v1' L/\OwnP tW w base v2 xs/\Blk w gd tW #[.bool dn,.slice dA dk dc]/\Wd w dn dA dk dc D/\Blk w g3 tG #[v1,v2]/\g3 < base/\(∀ s ∈ L,v2.ownBlock ≠ some s.g)
theorem EnvA.below (h:EnvA tS tW tG w g3 gd base v1 v2 v1' L xs dn dA dk dc D) (hb:Below w.heap.size w w'):EnvA tS tW tG w' g3 gd base v1 v2 v1' L xs dn dA dk dc D:=by
 obtain ⟨h1,h3,h4,h5,h6,h7⟩:=h;exact ⟨h1.kept hb,h3.kept hb,Zc hb h4,h5.below hb,Zc hb h6,h7⟩
theorem OwnP.grownT (h:OwnP tW w base v2 xs) (hg:w.grownBy w' v1.ownBlock) (hne:∀ g cs,Blk w g tW cs->v1.ownBlock ≠ some g) (hk:∀ (A:Option Addr) (n c:Nat) (l:List Nat),Lim w A n c l->Lim w' A n c l):OwnP tW w' base v2 xs:=by
 obtain ⟨es,h1,h2,h3⟩:=h;refine ⟨es,?_,fun e he=>⟨hk _ _ _ _ (h2 e he).1,(h2 e he).2⟩,h3⟩
 rcases h1 with h | ⟨g',sp,h1,h2,h3,h4⟩
 ·exact .inl h
 ·exact .inr ⟨g',sp,h1,h2,h3,(hg.block g' h4.lt (fun e=>hne g' _ h4 (by first | exact e | exact e.symm))).trans h4⟩
theorem EnvW.app (h:EnvW tS tW tG w g3 gd gO base v1 v2 L xs dn dA dk dc D q) (t1:tS ≠ tW) (t2:tS ≠ tG) (hR:RowS tS w' base v1' (L.map RZ.rs ++ [RZ.rs ⟨gO,q⟩])) (hg:w.grownBy w' v1.ownBlock) (hk:∀ (A:Option Addr) (n c:Nat) (l:List Nat),Lim w A n c l->Lim w' A n c l) :
    EnvA tS tW tG w' g3 gd base v1 v2 v1' (L ++ [⟨gO,q⟩]) xs dn dA dk dc D:=by
 obtain ⟨h1,h2,h3,h4,h5,h6,h7,h8,h9,h10⟩:=h;refine ⟨h1.snoc t1 (r:=⟨gO,q⟩) h2 h7.2 h8 hR hg hk,h3.grownT hg (fun g cs hb=>h1.1.ownType hb t1) hk,(hg.block gd h4.lt (fun e=>h1.1.ownType h4 t1 (by first | exact e | exact e.symm))).trans h4,h5.of_keep hk,(hg.block g3 h6.lt (fun e=>h1.1.ownType h6 t2 (by first | exact e | exact e.symm))).trans h6,h7.1,fun s hs=>?_⟩
 rcases List.mem_append.1 hs with hs | hs
 ·exact h10 s hs
 ·rw [List.mem_singleton] at hs;subst hs;exact h9
theorem RowS.grownP {rs:List RS} (h:RowS tS w base v1 rs) (hg:w.grownBy w' v2.ownBlock) (hne:∀ g cs,Blk w g tS cs->v2.ownBlock ≠ some g):RowS tS w' base v1 rs:=by
 rcases h with h | ⟨g',sp,h1,h2,h3,h4⟩
 ·exact .inl h
 ·exact .inr ⟨g',sp,h1,h2,h3,(hg.block g' h4.lt (fun e=>hne g' _ h4 (by first | exact e | exact e.symm))).trans h4⟩
theorem OwnP.ownType {t:TypeId} (h:OwnP tW w base v2 xs) {g:Nat} {cs:Array Value} (hb:Blk w g t cs) (hne:tW ≠ t):v2.ownBlock ≠ some g:=by
 rintro e;obtain ⟨es,h1,-,-⟩:=h
 rcases h1 with ⟨rfl,_⟩ | ⟨g',sp,rfl,_,_,h4⟩
 ·cases e
 ·have:g'=g:=by simpa [Value.ownBlock] using e
  subst this;exact hne (h4.type hb)
theorem EnvA.app (h:EnvA tS tW tG w g3 gd base v1 v2 v1' L xs dn dA dk dc D) (t1:tS ≠ tW) (hP:OwnP tW w' base v2' (xs ++ [D])) (hg:w.grownBy w' v2.ownBlock) (hk:∀ (A:Option Addr) (n c:Nat) (l:List Nat),Lim w A n c l->Lim w' A n c l) (hw:v2'.ownBlock=v2.ownBlock \/ ∀ k,v2'.ownBlock=some k->w.heap.size <= k) :
    MatOZ tS tW w' base v1' L/\OwnP tW w' base v2' (xs ++ [D])/\Blk w' g3 tG #[v1,v2]/\∀ s ∈ L,v2'.ownBlock ≠ some s.g:=by
 obtain ⟨h1,h3,-,h5,h6,h7,h8⟩:=h;refine ⟨⟨h1.1.grownP hg (fun g cs hb=>h3.ownType hb (Ne.symm t1)),fun s hs=>⟨⟨(h1.2.1 s hs).1.1.grown hg (h8 s hs) hk,(h1.2.1 s hs).1.2⟩,(h1.2.1 s hs).2⟩,h1.2.2⟩,hP,(hg.block g3 h6.lt (fun e=>?_)).trans h6,fun s hs e=>?_⟩
 ·have:=h3.row_ge g3 (by first | exact e | exact e.symm);omega
 ·rcases hw with hw | hw
  ·exact h8 s hs (by rw [<- hw];exact e)
  ·have:=hw _ e
   have:=(h1.2.1 s hs).1.1.lt;omega
theorem EnvW.far {t:TypeId} {g:Nat} {cs:Array Value} (h:EnvW tS tW tG w g3 gd gO base v1 v2 L xs dn dA dk dc D q) (t1:tS ≠ t) (hg:w.grownBy w' v1.ownBlock) (hb:Blk w g t cs):Blk w' g t cs:=
 (hg.block g hb.lt (fun e=>h.1.1.ownType hb t1 (by first | exact e | exact e.symm))).trans hb
theorem Zd2 {t:TypeId} {g:Nat} {A:Option Addr} {n c:Nat} (h:Blk w g t #[.slice A n c]):Reads w (g+1) 1 (some ⟨g,0,none⟩) 1 (Zar [⟨A,n,c⟩]):=
 ⟨rfl,fun _=>⟨_,rfl,Nat.lt_succ_self _,fun j u hu=>by
  rw [Zh,Nat.zero_add,h.cell]
  simpa [Zar] using hu⟩⟩
theorem Zdy {t:TypeId} {g:Nat} {neg:Bool} {A:Option Addr} {n c:Nat} (l:List Nat) (h:Blk w g t #[.bool neg,.slice A n c]):Reads w (g+1) 2 (some ⟨g,0,none⟩) 1 (Zan [⟨neg,A,n,c,l⟩]):=
 ⟨rfl,fun _=>⟨_,rfl,Nat.lt_succ_self _,fun j u hu=>by
  rw [Zh,Nat.zero_add,h.cell]
  simpa [Zan] using hu⟩⟩
theorem EnvW.cells (h:EnvW tS tW tG w g3 gd gO base v1 v2 L xs dn dA dk dc D q):w.cell? ⟨g3,0,none⟩=some v1/\w.cell? ⟨g3,1,none⟩=some v2:=by
 have:=h.2.2.2.2.2.1;exact ⟨by rw [this.cell];rfl,by rw [this.cell];rfl⟩
theorem EnvA.cells (h:EnvA tS tW tG w g3 gd base v1 v2 v1' L xs dn dA dk dc D):w.cell? ⟨g3,0,none⟩=some v1/\w.cell? ⟨g3,1,none⟩=some v2:=by
 have:=h.2.2.2.2.1;exact ⟨by rw [this.cell];rfl,by rw [this.cell];rfl⟩
theorem Kept.grownG {G:Nat->Prop} {row:Option Nat} (h:Kept G W0 w) (hg:w.grownBy w' row) (hr:∀ k,row=some k->W0.heap.size <= k):Kept G W0 w':=
 ⟨hg.os.trans h.os,hg.tape.trans h.tape,hg.output.trans h.output,Nat.le_trans h.size hg.size,fun k hk hG=>(hg.block k (Nat.lt_of_lt_of_le hk h.size) (fun e=>by have:=hr k (by first | exact e | exact e.symm);omega)).trans (h.block k hk hG)⟩
theorem Kept.of_belowGe {g:Nat} (h:Below g w w'):Kept (fun k=>g <= k) w w':=⟨h.os,h.tape,h.output,h.size,fun k _ hk=>h.block k (by omega)⟩
end
theorem Zv4:(Tryz.prog.info? 43).map (fun i=>(i.zero,i.size,i.bytes))=some (some (.agg #[.bool false,.slice none 0 0]),2,32):=by kernel_rfl
theorem Zvo:(Tryz.prog.info? 89).map (fun i=>(i.zero,i.size,i.bytes))=some (some (.slice none 0 0),1,24):=by kernel_rfl
theorem Zji (a b:Nat):Int.fdiv (a:Int) (b:Int)=((a / b:Nat):Int):=by rw [Int.fdiv_eq_ediv_of_nonneg _ (by omega)];rfl
theorem Zoo (row:List Rat) {j k:Nat} (h:j < k):(row[j]?.getD 0).den <= denTo row k:=Nat.le_of_dvd (Zd0 _ _) (Zj9 row h)
theorem Zka (A:Option Addr) (n c m:Nat) (Q:List (List Rat)) (w:World) (h:MFL w A n c Q) (hn9:n <= 900) (hm:∀ i,i < n->(Q[i]?.getD []).length=m) (hm0:0 < m) (hm9:m <= 900)
    (hden:∀ i k,i < n->k <= m->denTo (Q[i]?.getD []) k < pw 1000) (hnum:∀ i j,(Zn Q i j).num.natAbs < pw 1000) :
    Calls Tryz.prog 50 #[.slice A n c] w fun e w'=>∃ v vby L,e=.returned (.agg #[v,vby])/\Below w.heap.size w w'/\MatOZ 89 43 w' w.heap.size v L/\L.map RZ.q=Zt Q /\
     OwnP 43 w' w.heap.size vby ((List.range n).map fun i=>((denAt Q i:Nat):Int))/\∀ s ∈ L,vby.ownBlock ≠ some s.g:=by
 obtain ⟨iW,hi,hz0,hz1,hz2⟩:=info_parts Zv4;obtain ⟨iS,ki,kz0,kz1,kz2⟩:=info_parts Zvo
 have hmx:Tryz.prog.follows .mixedOrders=true:=by kernel_rfl
 have hne:(89:TypeId) ≠ 43:=by decide
 have hl:=Za h.1;have hnc:=h.2.1;have hcm:=h.2.2.1;unfold maxLen at hcm;replace hm:=Za hm;replace hden:=Za hden;replace hnum:=Za hnum;obtain ⟨W0,hW0,hB0,⟨q0,q1⟩,s0⟩:=Zf5 w 91 #[.slice none 0 0,.slice none 0 0] 91 #[.slice none 0 0,.slice none 0 0];have hFw:=Za h;obtain ⟨gR,hgR⟩:∃ g,w.heap.size=g:=⟨_,rfl⟩;rw [hgR] at q0 q1 s0 hB0;obtain ⟨g3,hg3⟩:∃ g,gR+1=g:=⟨_,rfl⟩;rw [hg3] at q1;have hs0:Hid (W0.heap.size=g3+1):=Za (by rw [s0];omega);have hR3:Hid (gR < g3):=Za (by omega);clear h;replace q0:=Za q0;replace q1:=Za q1;go_enter Tryz.func50,Tryz.ntmps50;go_wp2_with fail;(try rw [hW0]);(try rw [hgR]);(try rw [hg3]);replace hgR:=Za hgR;replace hg3:=Za hg3;replace hB0:=Za hB0;clear hW0 s0
 go_loopg [16] n (fun k iv wr=>∃ (i:Nat) (v1 v2:Value) (L:List RZ),i+k=n/\iv=.int .i64 i/\Blk wr g3 91 #[v1,v2]/\MatOZ 89 43 wr W0.heap.size v1 L/\Hid (L.map RZ.q=(Q.take i).map Zdr)/\OwnP 43 wr W0.heap.size v2 ((List.range i).map fun i=>((denAt Q i:Nat):Int))/\Hid (∀ s ∈ L,v2.ownBlock ≠ some s.g)/\Kept (fun k=>k=g3) W0 wr)
 case atStart=>exact ⟨0,.slice none 0 0,.slice none 0 0,[],by omega,rfl,q1.out,MatOZ.nil _ _ _ _,Za (by simp),OwnP.nil _ _ _,Za (fun s hs=>(by cases hs)),Kept.refl _ _⟩
 case round =>
  obtain ⟨i,v1,v2,L,hik,rfl,hb3,hMO,hLq,hOP,hdis,hK⟩:=hrel;have hR3':=hR3.out;have hs0':=hs0.out;have hbR:=hK.blk q0.out (by omega)
  have hK3:∀ k,k=g3->∃ t cs,Blk W0 k t cs/\NoLimb cs:=fun k hk=>⟨_,_,(hk ▸ q1.out:Blk W0 k 91 #[.slice none 0 0,.slice none 0 0]),fun i u=>by match i with | 0=>simp | 1=>simp | i+2=>simp⟩
  cases gk with
  | zero =>
   obtain rfl:i=n:=by omega
   have t1:decide ((i:Int) < (i:Int))=false:=by simp
   have b0:wr.cell? ⟨g3,0,none⟩=some v1:=by rw [hb3.cell];rfl
   have b1:wr.cell? ⟨g3,1,none⟩=some v2:=by rw [hb3.cell];rfl
   have r0:wr.cell? ⟨gR,0,none⟩=some (.slice none 0 0):=by rw [hbR.cell];rfl
   have r1:wr.cell? ⟨gR,1,none⟩=some (.slice none 0 0):=by rw [hbR.cell];rfl
   have z0:=hbR.frozen 0;have z1:=hbR.frozen 1;replace hMO:=Za hMO;replace hOP:=Za hOP;obtain ⟨a1,a2,a3,rfl⟩:=hMO.out.1.isSlice;obtain ⟨a4,a5,a6,rfl⟩:=hOP.out.isSlice;obtain ⟨X,hX⟩:∃ X,(wr.setCell ⟨gR,0,none⟩ (.slice a1 a2 a3)).setCell ⟨gR,1,none⟩ (.slice a4 a5 a6)=X:=⟨_,rfl⟩;have hps:=Zeo (x:=.slice a1 a2 a3) (y:=.slice a4 a5 a6) hbR (fun k=>by simp) (fun k=>by simp) (fun k=>by simp) hMO.out (by omega) hOP.out (by omega);rw [hX] at hps;obtain ⟨p1,p2,p3⟩:=hps
   have y0:X.cell? ⟨gR,0,none⟩=some (.slice a1 a2 a3):=by rw [p1.cell];rfl
   have y1:X.cell? ⟨gR,1,none⟩=some (.slice a4 a5 a6):=by rw [p1.cell];rfl
   have hBX:Hid (Below w.heap.size w X):=Za (by
    rw [hgR.out]
    have h1:Below gR W0 X:=by
     rw [<- hX];exact (((hK.to_below (B:=gR) (fun k hk=>by omega) (by omega)).setCell (p:=⟨gR,0,none⟩) (Nat.le_refl _) _).setCell (p:=⟨gR,1,none⟩) (Nat.le_refl _) _)
    exact hB0.out.trans h1)
   replace p2:=Za p2;replace p3:=Za p3;clear p1 hbR hb3;go_wp2_with fail;(try rw [hX]);refine bodyPost_ret (v:=.agg #[.slice a1 a2 a3,.slice a4 a5 a6]) (by simp [results,Tryz.results50,go_sem,y0,y1]) rfl ?_
   have hle:w.heap.size <= W0.heap.size:=by rw [hgR.out];omega
   refine ⟨_,_,L,rfl,hBX.out,p2.out.mono hle,?_,p3.out.mono hle,hdis.out⟩;rw [hLq.out];unfold Zt;rw [List.take_of_length_le (by rw [hl.out];exact Nat.le_refl _)]
  | succ j =>
   obtain rfl:j=n - (i+1):=by omega
   have hin:i < n:=by omega
   have t1:decide ((i:Int) < (n:Int))=true:=decide_eq_true (by omega)
   have bi:(i:Int) < (n:Int):=by omega
   have hBwr:Below w.heap.size w wr:=by rw [hgR.out];exact hB0.out.trans (hK.to_below (fun k hk=>by omega) (by omega))
   obtain ⟨ga,oa,A1,n1,c1,rfl,k0,hF⟩:=hFw.out.at_ hin;obtain ⟨row,hrow⟩:∃ X,Q[i]?.getD []=X:=⟨_,rfl⟩
   have hn1:n1=m:=by rw [<- hF.len];exact hm.out i hin
   subst hn1;rw [hrow] at hF;have hcap:=hF.cap;unfold maxLen at hcap;have hrl:Hid (row.length=n1):=Za hF.len;have hdenR:Hid (∀ k,k <= n1->denTo row k < pw 1000):=Za (fun k hk=>by rw [<- hrow];exact hden.out i k hin hk);have hnumR:Hid (∀ t:Nat,(row[t]?.getD 0).num.natAbs < pw 1000):=Za (fun t=>by rw [<- hrow];exact hnum.out i t);have k1:=Zb hBwr k0;replace hF:=Za hF;replace hrow:=Za hrow;replace hb3:=Za hb3;replace hMO:=Za hMO;replace hOP:=Za hOP;have hLg:Hid (∀ s ∈ L,s.g < wr.heap.size):=Za (fun s hs=>(hMO.out.2.1 s hs).1.1.lt)
   have hv2:Hid (∀ k,v2.ownBlock=some k->k < wr.heap.size):=Za (fun k hk=>by
    obtain ⟨es,h1,-,-⟩:=hOP.out
    rcases h1 with ⟨rfl,-⟩ | ⟨g',sp,rfl,-,-,h4⟩
    ·cases hk
    ·have:g'=k:=by simpa [Value.ownBlock] using hk
     rw [<- this];exact h4.lt)
   clear hbR k0;go_wp2_with fail;refine (Za5 1 wr (by decide) (by decide)).mono ?_;rintro e w1 ⟨hb1,d0,D0,e0,f0,rfl,hN⟩;obtain ⟨gd,hgd⟩:∃ g,w1.heap.size=g:=⟨_,rfl⟩;obtain ⟨V,hV,hBV,qd,kW,kB,sV⟩:=Zr 43 #[.bool d0,.slice D0 e0 f0] hb1 hb1.size;have hNV:Hid (Wd V d0 D0 e0 f0 ((denTo row 0:Nat):Int)):=Za (kW _ _ _ _ _ hN);rw [hgd] at qd
   have hgd3:Hid (g3 < gd/\W0.heap.size <= gd):=Za (by
    have h1:=hb3.out.lt;have h2:=hb1.size;have h3:=hK.size
    omega)
   have hBwV:Hid (Below w.heap.size w V):=Za (hBwr.trans (hBV.mono hBwr.size));have hVs:Hid (gd < V.heap.size):=Za qd.lt
   have hwgd:wr.heap.size <= gd:=by rw [<- hgd];exact hb1.size
   have hMk:Hid (∀ wx,Below gd V wx->MatOZ 89 43 wx W0.heap.size v1 L/\OwnP 43 wx W0.heap.size v2 ((List.range i).map fun i=>((denAt Q i:Nat):Int))/\Blk wx g3 91 #[v1,v2]/\Kept (fun k=>k=g3) W0 wx):=Za (fun wx hx=>by
    have hb:Below wr.heap.size wr wx:=hBV.trans (hx.mono hwgd);have hKx:Kept (fun k=>k=g3) W0 V:=hK.below hBV
    exact ⟨hMO.out.kept hb,hOP.out.kept hb,hb3.out.below hb hb3.out.lt,hKx.and (Kept.of_belowGe hx) (fun k hk h=>by have:=hK.size;omega)⟩)
   have hLgd:Hid (∀ s ∈ L,s.g < gd):=Za (fun s hs=>Nat.lt_of_lt_of_le (hLg.out s hs) hwgd);have hvgd:Hid (∀ k,v2.ownBlock=some k->k < gd):=Za (fun k hk=>Nat.lt_of_lt_of_le (hv2.out k hk) hwgd);have qdH:=Za qd;replace hgd:=Za hgd;clear hb3 hMO hOP hK hBwr hN qd kW kB sV hBV hb1 k1 hLg hv2 hwgd;go_wp2_with fail;(try rw [hgd.out]);(try rw [hV]);clear hV;have hwsz:Hid (w.heap.size <= gd):=Za (by have h1:=hgd3.out;rw [hgR.out];omega);have hboxd:Hid (∀ k,k=gd->∃ t cs,Blk V k t cs/\NoLimb cs):=Za (fun k hk=>⟨_,_,(hk ▸ qdH.out:Blk V k 43 #[.bool d0,.slice D0 e0 f0]),Zbz _ _ _ _⟩)
   go_loopg [23] n1 (fun k iv wr=>∃ (t:Nat) (dn:Bool) (dA:Option Addr) (dk dc:Nat),t+k=n1/\iv=.int .i64 t/\Blk wr gd 43 #[.bool dn,.slice dA dk dc]/\Wd wr dn dA dk dc ((denTo row t:Nat):Int)/\Kept (fun k=>k=gd) V wr)
   case atStart=>exact ⟨0,d0,D0,e0,f0,by omega,rfl,qdH.out,hNV.out,Kept.refl _ _⟩
   case round =>
    obtain ⟨t,dn,dA,dk,dc,htk,rfl,hbd,hwd,hKd⟩:=hrel;have hBx:Below w.heap.size w wr:=hBwV.out.trans (hKd.to_below (fun k hk=>by rw [hk];exact hwsz.out) (hBwV.out.size))
    cases gk with
    | zero =>
     obtain rfl:t=n1:=by omega
     have t2:decide ((t:Int) < (t:Int))=false:=by simp
     have hDE:Hid (denTo row t=denAt Q i):=Za (by unfold denAt;rw [hrow.out,hrl.out]);have hBgd:Below gd V wr:=hKd.to_below (fun k hk=>by omega) (Nat.le_of_lt hVs.out);obtain ⟨gO,hgO⟩:∃ g,wr.heap.size=g:=⟨_,rfl⟩;obtain ⟨Wo,hWo⟩:∃ X,wr.alloc (.cells (Zbl (List.replicate t Zcj)) 43)=X:=⟨_,rfl⟩;have hmk:=makeW (P:=Tryz.prog) 89 43 Tryz.underlying89 hi hz0 hz1 hz2 (t:Int) t rfl (by omega)
     have hBo:Below wr.heap.size wr Wo:=by rw [<- hWo];exact (Below.refl _ _).alloc (Nat.le_refl _) _
     have hO:POwn 43 Wo gO (List.replicate t 0):=by rw [<- hWo,<- hgO];exact POwn.new _ _ _
     have hbdo:Hid (Blk Wo gd 43 #[.bool dn,.slice dA dk dc]):=Za (hbd.below hBo hbd.lt);have hwdo:Hid (Wd Wo dn dA dk dc ((denTo row t:Nat):Int)):=Za (hwd.below hBo);have hBgo:Hid (Below gd V Wo):=Za (hBgd.trans (hBo.mono (Nat.le_of_lt hbd.lt)));have hBwo:Hid (Below w.heap.size w Wo):=Za (hBx.trans (hBo.mono hBx.size));have hgdO:Hid (gd < gO):=Za (by rw [<- hgO];exact hbd.lt);replace hO:=Za hO;clear hbd hwd hKd hBx hBgd hBo;go_wp2_with fail;(try rw [hgO]);(try rw [hWo]);clear hWo hmk;replace hgO:=Za hgO;have hboxO:Hid (∀ k,k=gO->∃ t cs,Blk Wo k t cs/\NoLimb cs):=Za (fun k hk=>by rw [hk];exact hO.out.box)
     go_loopg [46] t (fun k iv wr=>∃ (x:Nat) (q3:List Int),x+k=t/\iv=.int .i64 x/\POwn 43 wr gO q3/\Hid (q3.length=t)/\Hid (∀ y:Nat,q3[y]?.getD 0=if y < x then (row[y]?.getD 0).num * ((denTo row t / (row[y]?.getD 0).den:Nat):Int) else 0)/\Kept (fun k=>k=gO) Wo wr)
     case atStart=>exact ⟨0,List.replicate t 0,by omega,rfl,hO.out,Za (by simp),Za (fun y=>by rw [if_neg (Nat.not_lt_zero y),List.getElem?_replicate];split <;> rfl),Kept.refl _ _⟩
     case round =>
      obtain ⟨x,q3,hxk,rfl,hO3,hl3,hq3,hKo⟩:=hrel;have hgdO':=hgdO.out;have hBox:Below gd V wr:=hBgo.out.trans (hKo.to_below (fun k hk=>by omega) (Nat.le_of_lt hbdo.out.lt));have hbd:=hKo.blk hbdo.out (by omega);have hwd:=hKo.wd hwdo.out hboxO.out;have hBx:Below w.heap.size w wr:=hBwo.out.trans (hKo.to_below (fun k hk=>by have:=hwsz.out;omega) hBwo.out.size)
      cases gk with
      | zero =>
       obtain rfl:x=t:=by omega
       have t3:decide ((x:Int) < (x:Int))=false:=by simp
       obtain ⟨mM,mP,m3,mK⟩:=hMk.out wr hBox
       have hq3e:Hid (q3=Zdr row):=Za (by
        apply List.ext_getElem?
        intro y;have h1:=hq3.out y
        by_cases hy:y < x
        ·rw [if_pos hy] at h1
         rw [List.getElem?_eq_getElem (by rw [hl3.out];exact hy)] at h1 ⊢;unfold Zdr
         have hyr:y < row.length:=by rw [hrl.out];exact hy
         rw [List.getElem?_map,List.getElem?_eq_getElem hyr];simp only [Option.getD_some,Option.map_some] at h1 ⊢;rw [h1,List.getElem?_eq_getElem hyr,hrl.out];rfl
        ·rw [List.getElem?_eq_none (by rw [hl3.out];omega),List.getElem?_eq_none (by rw [Zjo,hrl.out];omega)])
       have hE0:EnvW 89 43 91 wr g3 gd gO W0.heap.size v1 v2 L ((List.range i).map fun i=>((denAt Q i:Nat):Int)) dn dA dk dc ((denTo row x:Nat):Int) q3:=
        ⟨mM,⟨hO3,by rw [hl3.out];unfold maxLen;omega⟩,mP,hbd,hwd,m3,⟨by omega,by have:=hgd3.out;omega⟩,fun s hs e=>by have:=hLgd.out s hs;omega,fun e=>by have:=hvgd.out _ e;omega,hdis.out⟩
       have hLl:L.length=i:=by
        have h1:(L.map RZ.q).length=((Q.take i).map Zdr).length:=by rw [hLq.out]
        rw [List.length_map,List.length_map,List.length_take,hl.out] at h1;omega
       have hlen1:(L.map RZ.rs).length+1 <= 1000:=by rw [List.length_map];omega
       have hlen2:((List.range i).map fun i=>((denAt Q i:Nat):Int)).length+1 <= 1000:=by rw [List.length_map,List.length_range];omega
       have hneG:(89:TypeId) ≠ 91:=by decide
       replace hE0:=Za hE0;replace mK:=Za mK;replace hl3:=Za hl3.out;clear mM mP m3 hO3 hbd hwd hBox hBx hKo;go_wp2_with fail;obtain ⟨X0,hX0⟩:∃ X,wr.drew=X:=⟨_,rfl⟩
       have hBX0:Below wr.heap.size wr X0:=by rw [<- hX0];exact Zf (Below.refl _ _) 1
       have hE:=hE0.out.below hBX0;have mKX:Kept (fun k=>k=g3) W0 X0:=mK.out.below hBX0
       have hS0:wr.drew.cell? ⟨g3,0,none⟩=some v1/\wr.drew.cell? ⟨g3,1,none⟩=some v2:=by rw [hX0];exact hE.cells
       refine Zaj [11,13] (fun wx=>wx.cell? ⟨g3,0,none⟩=some v1/\wx.cell? ⟨g3,1,none⟩=some v2) hmx hS0 (fun hxs9=>?_);refine Zi4 5 [0,1,2,5,6] rfl (by kernel_rfl) hS0 ?_
       iterate 5 (refine tk1 (v:=?_) rfl (Or.inl ⟨by kernel_rfl,?_⟩) ?_;rotate_left;(· intro W2 hSw;(try dsimp only at hSw);go_simp;try with_reducible rfl);try simp only [Act.put,Zgj,Zfx,Zge,putG_a,putG_s,putG_z])
       refine tk0 ?_;rw [hX0];clear hS0 hxs9 hBX0 hX0;have mM0:=hE.1.1;have mP0:=hE.2.2.1;have hg3b:=hE.2.2.2.2.2.2.1.1;have hE00:=hE;clear hE00;refine Zet (i:=3) (j:=7) rfl rfl (by kernel_rfl) (fun K hK=>?_) (fun K hK=>?_)
       ·obtain ⟨Y1,hY1⟩:∃ Y,X0.alloc (.cells #[.slice (some ⟨gO,0,none⟩) x x] 89)=Y:=⟨_,rfl⟩
        obtain ⟨ga2,hga2⟩:∃ g,X0.heap.size=g:=⟨_,rfl⟩
        have hBY1:Below X0.heap.size X0 Y1:=by rw [<- hY1];exact (Below.refl _ _).alloc (Nat.le_refl _) _
        have hbl3:Blk Y1 ga2 89 #[.slice (some ⟨gO,0,none⟩) x x]:=by rw [<- hY1,<- hga2];exact Blk.new _ _ _
        have hEY1:=hE.below hBY1;have mKY1:=mKX.below hBY1;go_simp;(try rw [hY1]);(try rw [hga2]);refine hK.out _ _ (fun _=>hEY1.cells) ?_;clear hK K hY1 hga2
        try simp only [Act.put,Zgj,Zfx,Zge]
        refine Zet (i:=4) (j:=7) rfl rfl (by kernel_rfl) (fun K hK=>?_) (fun K hK=>?_)
        ·rw [if_pos (by rfl)]
         refine Zcd _ (.tmp 63) (.tmp 65) 88 rfl W0.heap.size 89 iS Tryz.underlying88 ki kz0 kz1 kz2 v1 (L.map RZ.rs) rfl hEY1.1.1 _ (some ⟨ga2,0,none⟩) 1 1 [⟨some ⟨gO,0,none⟩,x,x⟩] rfl (Zd2 hbl3) rfl hlen1 mKY1.size ?_;intro vY4 Y4 hRY4 hgY4 hkY4;have hEY4:=hEY1.app hne hneG (by simp only [RZ.rs,hl3.out];exact hRY4) hgY4 hkY4;have mKY4:=mKY1.grownG hgY4 (fun k hk=>hEY1.1.1.row_ge k hk);refine hK.out _ _ (fun _=>hEY4.cells) ?_;clear hK K
         try simp only [Act.put,Zgj,Zfx,Zge]
         refine Zfy 1 [10] rfl (by kernel_rfl) hEY4.cells ?_
         (refine tk1 (v:=?_) rfl (Or.inl ⟨by kernel_rfl,?_⟩) ?_;rotate_left;(· intro W2 _;go_simp;try with_reducible rfl);try simp only [Act.put,Zgj,Zfx,Zge,putG_a,putG_s,putG_z])
         refine tk0 ?_;refine Ze (i:=7) rfl (by kernel_rfl) (fun K hK=>?_);obtain ⟨r5a,r5b,-,-⟩:=Blk.two (hEY4.2.2.1);go_simp;refine hK.out _ _ (fun _=>hEY4.cells) ?_;clear hK K r5a r5b
         try simp only [Act.put,Zgj,Zfx,Zge]
         refine Ze (i:=8) rfl (by kernel_rfl) (fun K hK=>?_);obtain ⟨Y6,hY6⟩:∃ Y,Y4.alloc (.cells #[.bool dn,.slice dA dk dc] 43)=Y:=⟨_,rfl⟩;obtain ⟨ga7,hga7⟩:∃ g,Y4.heap.size=g:=⟨_,rfl⟩
         have hBY6:Below Y4.heap.size Y4 Y6:=by rw [<- hY6];exact (Below.refl _ _).alloc (Nat.le_refl _) _
         have hbl8:Blk Y6 ga7 43 #[.bool dn,.slice dA dk dc]:=by rw [<- hY6,<- hga7];exact Blk.new _ _ _
         have hEY6:=hEY4.below hBY6;have mKY6:=mKY4.below hBY6;go_simp;(try rw [hY6]);(try rw [hga7]);refine hK.out _ _ (fun _=>hEY6.cells) ?_;clear hK K hY6 hga7
         try simp only [Act.put,Zgj,Zfx,Zge]
         refine Ze (i:=9) rfl (by kernel_rfl) (fun K hK=>?_);rw [if_pos (by rfl)];refine Zcg _ (.tmp 68) (.tmp 70) 89 rfl W0.heap.size 43 iW Tryz.underlying89 hi hz0 hz1 hz2 v2 _ rfl hEY6.2.1 _ (some ⟨ga7,0,none⟩) 1 1 [⟨dn,dA,dk,dc,digits ((denTo row x:Nat):Int).natAbs⟩] rfl (Zdy _ hbl8) rfl (by intro e he;rw [List.mem_singleton] at he;subst he;exact ⟨hEY6.2.2.2.1.2.2,hEY6.2.2.2.1.ok⟩) hlen2 mKY6.size ?_;intro vY9 Y9 hPY9 hgY9 hkY9 hwY9;obtain ⟨f1,f2,f3,f4⟩:=hEY6.app hne (OwnP.snoc hPY9 hEY6.2.2.2.1) hgY9 hkY9 hwY9;have mKY9:=mKY6.grownG hgY9 (fun k hk=>hEY6.2.1.row_ge k hk);refine hK.out _ _ (fun _=>⟨by rw [f3.cell];rfl,by rw [f3.cell];rfl⟩) ?_;clear hK K
         try simp only [Act.put,Zgj,Zfx,Zge]
         obtain ⟨a1,a2,a3,rfl⟩:=mM0.isSlice;obtain ⟨a4,a5,a6,rfl⟩:=mP0.isSlice;obtain ⟨a7,a8,a9,rfl⟩:=f1.1.isSlice;obtain ⟨b1,b2,b3,rfl⟩:=f2.isSlice;have hps:=Zeo (x:=.slice a7 a8 a9) (y:=.slice b1 b2 b3) f3 (fun k=>by simp) (fun k=>by simp) (fun k=>by simp) f1 hg3b f2 hg3b;have mKZ:Kept (fun k=>k=g3) W0 ((Y9.setCell ⟨g3,0,none⟩ (.slice a7 a8 a9)).setCell ⟨g3,1,none⟩ (.slice b1 b2 b3)):=(mKY9.set_ (p:=⟨g3,0,none⟩) (.inl rfl) _).set_ (p:=⟨g3,1,none⟩) (.inl rfl) _;have f5:Blk (Y9.setCell ⟨g3,0,none⟩ (.slice a7 a8 a9)) g3 91 #[.slice a7 a8 a9,.slice a4 a5 a6]:=f3.set_ 0 _
         have u0:Y9.cell? ⟨g3,0,none⟩=some (.slice a1 a2 a3):=by rw [f3.cell];rfl
         have uz0:=f3.frozen 0
         have u1:(Y9.setCell ⟨g3,0,none⟩ (.slice a7 a8 a9)).cell? ⟨g3,1,none⟩=some (.slice a4 a5 a6):=by rw [f5.cell];rfl
         have uz1:=f5.frozen 1;obtain ⟨Z9,hZ9⟩:∃ Z,((Y9.setCell ⟨g3,0,none⟩ (.slice a7 a8 a9)).setCell ⟨g3,1,none⟩ (.slice b1 b2 b3))=Z:=⟨_,rfl⟩;rw [hZ9] at hps mKZ;replace hps:=Za hps;replace mKZ:=Za mKZ;clear f1 f2 f3;refine Zu (i:=11) rfl (by kernel_rfl) (by kernel_rfl) (fun K hK=>?_);go_simp;refine hK.out _ _ ?_;clear hK K
         try simp only [Act.put,Zgj,Zfx,Zge]
         refine Zg (i:=12) (v:=?v7) rfl (by kernel_rfl) (by kernel_rfl) (by kernel_rfl) (by kernel_rfl) (Or.inl ⟨by kernel_rfl,?hy7⟩) (fun hno=>absurd hno (by decide)) ?rest7
         case hy7=>(intro W2 _;go_simp;try with_reducible rfl)
         try simp only [Act.put,Zgj,Zfx,Zge,putG_a,putG_s,putG_z]
         refine Zu (i:=13) rfl (by kernel_rfl) (by kernel_rfl) (fun K hK=>?_);go_simp;(try rw [hZ9]);refine hK.out _ _ ?_;clear hK K
         try simp only [Act.put,Zgj,Zfx,Zge]
         refine Zk (by kernel_rfl) ?_ _;refine OnlyNormal.normal ?_;clear hZ9 u0 uz0 u1 uz1 f5;go_wp2_with fail
         go_roundg (n - (i+1))
         case measure=>omega
         case rel =>
          refine ⟨i+1,_,_,L ++ [⟨gO,q3⟩],by omega,by go_num,hps.out.1,hps.out.2.1,Za ?_,?_,Za f4,mKZ.out⟩
          ·rw [List.map_append,hLq.out,List.take_add_one,List.map_append,List.getElem?_eq_getElem (by rw [hl.out];exact hin)]
           congr 1
           have h1:=hrow.out;rw [List.getElem?_eq_getElem (by rw [hl.out];exact hin)] at h1;simp only [Option.getD_some] at h1
           simp [hq3e.out,h1]
          ·rw [List.range_succ,List.map_append]
           have h1:=hps.out.2.2;rw [hDE.out] at h1;exact h1
        ·obtain ⟨r10a,r10b,-,-⟩:=Blk.two (hEY1.2.2.2.1)
         go_simp;refine hK.out _ _ (fun _=>hEY1.cells) ?_;clear hK K r10a r10b
         try simp only [Act.put,Zgj,Zfx,Zge]
         refine Zet (i:=4) (j:=8) rfl rfl (by kernel_rfl) (fun K hK=>?_) (fun K hK=>?_)
         ·rw [if_pos (by rfl)]
          refine Zcd _ (.tmp 63) (.tmp 65) 88 rfl W0.heap.size 89 iS Tryz.underlying88 ki kz0 kz1 kz2 v1 (L.map RZ.rs) rfl hEY1.1.1 _ (some ⟨ga2,0,none⟩) 1 1 [⟨some ⟨gO,0,none⟩,x,x⟩] rfl (Zd2 hbl3) rfl hlen1 mKY1.size ?_;intro vY11 Y11 hRY11 hgY11 hkY11;have hEY11:=hEY1.app hne hneG (by simp only [RZ.rs,hl3.out];exact hRY11) hgY11 hkY11;have mKY11:=mKY1.grownG hgY11 (fun k hk=>hEY1.1.1.row_ge k hk);refine hK.out _ _ (fun _=>hEY11.cells) ?_;clear hK K
          try simp only [Act.put,Zgj,Zfx,Zge]
          refine Zfy 1 [10] rfl (by kernel_rfl) hEY11.cells ?_
          (refine tk1 (v:=?_) rfl (Or.inl ⟨by kernel_rfl,?_⟩) ?_;rotate_left;(· intro W2 _;go_simp;try with_reducible rfl);try simp only [Act.put,Zgj,Zfx,Zge,putG_a,putG_s,putG_z])
          refine tk0 ?_;refine Ze (i:=8) rfl (by kernel_rfl) (fun K hK=>?_);obtain ⟨Y12,hY12⟩:∃ Y,Y11.alloc (.cells #[.bool dn,.slice dA dk dc] 43)=Y:=⟨_,rfl⟩;obtain ⟨ga13,hga13⟩:∃ g,Y11.heap.size=g:=⟨_,rfl⟩
          have hBY12:Below Y11.heap.size Y11 Y12:=by rw [<- hY12];exact (Below.refl _ _).alloc (Nat.le_refl _) _
          have hbl14:Blk Y12 ga13 43 #[.bool dn,.slice dA dk dc]:=by rw [<- hY12,<- hga13];exact Blk.new _ _ _
          have hEY12:=hEY11.below hBY12;have mKY12:=mKY11.below hBY12;go_simp;(try rw [hY12]);(try rw [hga13]);refine hK.out _ _ (fun _=>hEY12.cells) ?_;clear hK K hY12 hga13
          try simp only [Act.put,Zgj,Zfx,Zge]
          refine Ze (i:=9) rfl (by kernel_rfl) (fun K hK=>?_);rw [if_pos (by rfl)];refine Zcg _ (.tmp 68) (.tmp 70) 89 rfl W0.heap.size 43 iW Tryz.underlying89 hi hz0 hz1 hz2 v2 _ rfl hEY12.2.1 _ (some ⟨ga13,0,none⟩) 1 1 [⟨dn,dA,dk,dc,digits ((denTo row x:Nat):Int).natAbs⟩] rfl (Zdy _ hbl14) rfl (by intro e he;rw [List.mem_singleton] at he;subst he;exact ⟨hEY12.2.2.2.1.2.2,hEY12.2.2.2.1.ok⟩) hlen2 mKY12.size ?_;intro vY15 Y15 hPY15 hgY15 hkY15 hwY15;obtain ⟨f1,f2,f3,f4⟩:=hEY12.app hne (OwnP.snoc hPY15 hEY12.2.2.2.1) hgY15 hkY15 hwY15;have mKY15:=mKY12.grownG hgY15 (fun k hk=>hEY12.2.1.row_ge k hk);refine hK.out _ _ (fun _=>⟨by rw [f3.cell];rfl,by rw [f3.cell];rfl⟩) ?_;clear hK K
          try simp only [Act.put,Zgj,Zfx,Zge]
          obtain ⟨a1,a2,a3,rfl⟩:=mM0.isSlice;obtain ⟨a4,a5,a6,rfl⟩:=mP0.isSlice;obtain ⟨a7,a8,a9,rfl⟩:=f1.1.isSlice;obtain ⟨b1,b2,b3,rfl⟩:=f2.isSlice;have hps:=Zeo (x:=.slice a7 a8 a9) (y:=.slice b1 b2 b3) f3 (fun k=>by simp) (fun k=>by simp) (fun k=>by simp) f1 hg3b f2 hg3b;have mKZ:Kept (fun k=>k=g3) W0 ((Y15.setCell ⟨g3,0,none⟩ (.slice a7 a8 a9)).setCell ⟨g3,1,none⟩ (.slice b1 b2 b3)):=(mKY15.set_ (p:=⟨g3,0,none⟩) (.inl rfl) _).set_ (p:=⟨g3,1,none⟩) (.inl rfl) _;have f5:Blk (Y15.setCell ⟨g3,0,none⟩ (.slice a7 a8 a9)) g3 91 #[.slice a7 a8 a9,.slice a4 a5 a6]:=f3.set_ 0 _
          have u0:Y15.cell? ⟨g3,0,none⟩=some (.slice a1 a2 a3):=by rw [f3.cell];rfl
          have uz0:=f3.frozen 0
          have u1:(Y15.setCell ⟨g3,0,none⟩ (.slice a7 a8 a9)).cell? ⟨g3,1,none⟩=some (.slice a4 a5 a6):=by rw [f5.cell];rfl
          have uz1:=f5.frozen 1;obtain ⟨Z9,hZ9⟩:∃ Z,((Y15.setCell ⟨g3,0,none⟩ (.slice a7 a8 a9)).setCell ⟨g3,1,none⟩ (.slice b1 b2 b3))=Z:=⟨_,rfl⟩;rw [hZ9] at hps mKZ;replace hps:=Za hps;replace mKZ:=Za mKZ;clear f1 f2 f3;refine Zu (i:=11) rfl (by kernel_rfl) (by kernel_rfl) (fun K hK=>?_);go_simp;refine hK.out _ _ ?_;clear hK K
          try simp only [Act.put,Zgj,Zfx,Zge]
          refine Zg (i:=12) (v:=?v9) rfl (by kernel_rfl) (by kernel_rfl) (by kernel_rfl) (by kernel_rfl) (Or.inl ⟨by kernel_rfl,?hy9⟩) (fun hno=>absurd hno (by decide)) ?rest9
          case hy9=>(intro W2 _;go_simp;try with_reducible rfl)
          try simp only [Act.put,Zgj,Zfx,Zge,putG_a,putG_s,putG_z]
          refine Zu (i:=13) rfl (by kernel_rfl) (by kernel_rfl) (fun K hK=>?_);go_simp;(try rw [hZ9]);refine hK.out _ _ ?_;clear hK K
          try simp only [Act.put,Zgj,Zfx,Zge]
          refine Zk (by kernel_rfl) ?_ _;refine OnlyNormal.normal ?_;clear hZ9 u0 uz0 u1 uz1 f5;go_wp2_with fail
          go_roundg (n - (i+1))
          case measure=>omega
          case rel =>
           refine ⟨i+1,_,_,L ++ [⟨gO,q3⟩],by omega,by go_num,hps.out.1,hps.out.2.1,Za ?_,?_,Za f4,mKZ.out⟩
           ·rw [List.map_append,hLq.out,List.take_add_one,List.map_append,List.getElem?_eq_getElem (by rw [hl.out];exact hin)]
            congr 1
            have h1:=hrow.out;rw [List.getElem?_eq_getElem (by rw [hl.out];exact hin)] at h1;simp only [Option.getD_some] at h1
            simp [hq3e.out,h1]
           ·rw [List.range_succ,List.map_append]
            have h1:=hps.out.2.2;rw [hDE.out] at h1;exact h1
         ·obtain ⟨Y16,hY16⟩:∃ Y,Y1.alloc (.cells #[.bool dn,.slice dA dk dc] 43)=Y:=⟨_,rfl⟩
          obtain ⟨ga17,hga17⟩:∃ g,Y1.heap.size=g:=⟨_,rfl⟩
          have hBY16:Below Y1.heap.size Y1 Y16:=by rw [<- hY16];exact (Below.refl _ _).alloc (Nat.le_refl _) _
          have hbl18:Blk Y16 ga17 43 #[.bool dn,.slice dA dk dc]:=by rw [<- hY16,<- hga17];exact Blk.new _ _ _
          have hEY16:=hEY1.below hBY16;have mKY16:=mKY1.below hBY16;have hbl3Y16:=Zc hBY16 hbl3;go_simp;(try rw [hY16]);(try rw [hga17]);refine hK.out _ _ (fun _=>hEY16.cells) ?_;clear hK K hY16 hga17
          try simp only [Act.put,Zgj,Zfx,Zge]
          refine Ze (i:=4) rfl (by kernel_rfl) (fun K hK=>?_);rw [if_pos (by rfl)];refine Zcd _ (.tmp 63) (.tmp 65) 88 rfl W0.heap.size 89 iS Tryz.underlying88 ki kz0 kz1 kz2 v1 (L.map RZ.rs) rfl hEY16.1.1 _ (some ⟨ga2,0,none⟩) 1 1 [⟨some ⟨gO,0,none⟩,x,x⟩] rfl (Zd2 hbl3Y16) rfl hlen1 mKY16.size ?_;intro vY19 Y19 hRY19 hgY19 hkY19;have hEY19:=hEY16.app hne hneG (by simp only [RZ.rs,hl3.out];exact hRY19) hgY19 hkY19;have mKY19:=mKY16.grownG hgY19 (fun k hk=>hEY16.1.1.row_ge k hk);have hbl18Y19:=hEY16.far hne hgY19 hbl18;refine hK.out _ _ (fun _=>hEY19.cells) ?_;clear hK K
          try simp only [Act.put,Zgj,Zfx,Zge]
          refine Zfy 1 [10] rfl (by kernel_rfl) hEY19.cells ?_
          (refine tk1 (v:=?_) rfl (Or.inl ⟨by kernel_rfl,?_⟩) ?_;rotate_left;(· intro W2 _;go_simp;try with_reducible rfl);try simp only [Act.put,Zgj,Zfx,Zge,putG_a,putG_s,putG_z])
          refine tk0 ?_;refine Ze (i:=9) rfl (by kernel_rfl) (fun K hK=>?_);rw [if_pos (by rfl)];refine Zcg _ (.tmp 68) (.tmp 70) 89 rfl W0.heap.size 43 iW Tryz.underlying89 hi hz0 hz1 hz2 v2 _ rfl hEY19.2.1 _ (some ⟨ga17,0,none⟩) 1 1 [⟨dn,dA,dk,dc,digits ((denTo row x:Nat):Int).natAbs⟩] rfl (Zdy _ hbl18Y19) rfl (by intro e he;rw [List.mem_singleton] at he;subst he;exact ⟨hEY19.2.2.2.1.2.2,hEY19.2.2.2.1.ok⟩) hlen2 mKY19.size ?_;intro vY20 Y20 hPY20 hgY20 hkY20 hwY20;obtain ⟨f1,f2,f3,f4⟩:=hEY19.app hne (OwnP.snoc hPY20 hEY19.2.2.2.1) hgY20 hkY20 hwY20;have mKY20:=mKY19.grownG hgY20 (fun k hk=>hEY19.2.1.row_ge k hk);refine hK.out _ _ (fun _=>⟨by rw [f3.cell];rfl,by rw [f3.cell];rfl⟩) ?_;clear hK K
          try simp only [Act.put,Zgj,Zfx,Zge]
          obtain ⟨a1,a2,a3,rfl⟩:=mM0.isSlice;obtain ⟨a4,a5,a6,rfl⟩:=mP0.isSlice;obtain ⟨a7,a8,a9,rfl⟩:=f1.1.isSlice;obtain ⟨b1,b2,b3,rfl⟩:=f2.isSlice;have hps:=Zeo (x:=.slice a7 a8 a9) (y:=.slice b1 b2 b3) f3 (fun k=>by simp) (fun k=>by simp) (fun k=>by simp) f1 hg3b f2 hg3b;have mKZ:Kept (fun k=>k=g3) W0 ((Y20.setCell ⟨g3,0,none⟩ (.slice a7 a8 a9)).setCell ⟨g3,1,none⟩ (.slice b1 b2 b3)):=(mKY20.set_ (p:=⟨g3,0,none⟩) (.inl rfl) _).set_ (p:=⟨g3,1,none⟩) (.inl rfl) _;have f5:Blk (Y20.setCell ⟨g3,0,none⟩ (.slice a7 a8 a9)) g3 91 #[.slice a7 a8 a9,.slice a4 a5 a6]:=f3.set_ 0 _
          have u0:Y20.cell? ⟨g3,0,none⟩=some (.slice a1 a2 a3):=by rw [f3.cell];rfl
          have uz0:=f3.frozen 0
          have u1:(Y20.setCell ⟨g3,0,none⟩ (.slice a7 a8 a9)).cell? ⟨g3,1,none⟩=some (.slice a4 a5 a6):=by rw [f5.cell];rfl
          have uz1:=f5.frozen 1;obtain ⟨Z9,hZ9⟩:∃ Z,((Y20.setCell ⟨g3,0,none⟩ (.slice a7 a8 a9)).setCell ⟨g3,1,none⟩ (.slice b1 b2 b3))=Z:=⟨_,rfl⟩;rw [hZ9] at hps mKZ;replace hps:=Za hps;replace mKZ:=Za mKZ;clear f1 f2 f3;refine Zu (i:=11) rfl (by kernel_rfl) (by kernel_rfl) (fun K hK=>?_);go_simp;refine hK.out _ _ ?_;clear hK K
          try simp only [Act.put,Zgj,Zfx,Zge]
          refine Zg (i:=12) (v:=?v11) rfl (by kernel_rfl) (by kernel_rfl) (by kernel_rfl) (by kernel_rfl) (Or.inl ⟨by kernel_rfl,?hy11⟩) (fun hno=>absurd hno (by decide)) ?rest11
          case hy11=>(intro W2 _;go_simp;try with_reducible rfl)
          try simp only [Act.put,Zgj,Zfx,Zge,putG_a,putG_s,putG_z]
          refine Zu (i:=13) rfl (by kernel_rfl) (by kernel_rfl) (fun K hK=>?_);go_simp;(try rw [hZ9]);refine hK.out _ _ ?_;clear hK K
          try simp only [Act.put,Zgj,Zfx,Zge]
          refine Zk (by kernel_rfl) ?_ _;refine OnlyNormal.normal ?_;clear hZ9 u0 uz0 u1 uz1 f5;go_wp2_with fail
          go_roundg (n - (i+1))
          case measure=>omega
          case rel =>
           refine ⟨i+1,_,_,L ++ [⟨gO,q3⟩],by omega,by go_num,hps.out.1,hps.out.2.1,Za ?_,?_,Za f4,mKZ.out⟩
           ·rw [List.map_append,hLq.out,List.take_add_one,List.map_append,List.getElem?_eq_getElem (by rw [hl.out];exact hin)]
            congr 1
            have h1:=hrow.out;rw [List.getElem?_eq_getElem (by rw [hl.out];exact hin)] at h1;simp only [Option.getD_some] at h1
            simp [hq3e.out,h1]
           ·rw [List.range_succ,List.map_append]
            have h1:=hps.out.2.2;rw [hDE.out] at h1;exact h1
       ·obtain ⟨r21a,r21b,-,-⟩:=Blk.two (hE.2.2.2.1)
        go_simp;refine hK.out _ _ (fun _=>hE.cells) ?_;clear hK K r21a r21b
        try simp only [Act.put,Zgj,Zfx,Zge]
        refine Zet (i:=3) (j:=8) rfl rfl (by kernel_rfl) (fun K hK=>?_) (fun K hK=>?_)
        ·obtain ⟨Y22,hY22⟩:∃ Y,X0.alloc (.cells #[.slice (some ⟨gO,0,none⟩) x x] 89)=Y:=⟨_,rfl⟩
         obtain ⟨ga23,hga23⟩:∃ g,X0.heap.size=g:=⟨_,rfl⟩
         have hBY22:Below X0.heap.size X0 Y22:=by rw [<- hY22];exact (Below.refl _ _).alloc (Nat.le_refl _) _
         have hbl24:Blk Y22 ga23 89 #[.slice (some ⟨gO,0,none⟩) x x]:=by rw [<- hY22,<- hga23];exact Blk.new _ _ _
         have hEY22:=hE.below hBY22;have mKY22:=mKX.below hBY22;go_simp;(try rw [hY22]);(try rw [hga23]);refine hK.out _ _ (fun _=>hEY22.cells) ?_;clear hK K hY22 hga23
         try simp only [Act.put,Zgj,Zfx,Zge]
         refine Zet (i:=4) (j:=8) rfl rfl (by kernel_rfl) (fun K hK=>?_) (fun K hK=>?_)
         ·rw [if_pos (by rfl)]
          refine Zcd _ (.tmp 63) (.tmp 65) 88 rfl W0.heap.size 89 iS Tryz.underlying88 ki kz0 kz1 kz2 v1 (L.map RZ.rs) rfl hEY22.1.1 _ (some ⟨ga23,0,none⟩) 1 1 [⟨some ⟨gO,0,none⟩,x,x⟩] rfl (Zd2 hbl24) rfl hlen1 mKY22.size ?_;intro vY25 Y25 hRY25 hgY25 hkY25;have hEY25:=hEY22.app hne hneG (by simp only [RZ.rs,hl3.out];exact hRY25) hgY25 hkY25;have mKY25:=mKY22.grownG hgY25 (fun k hk=>hEY22.1.1.row_ge k hk);refine hK.out _ _ (fun _=>hEY25.cells) ?_;clear hK K
          try simp only [Act.put,Zgj,Zfx,Zge]
          refine Zfy 1 [10] rfl (by kernel_rfl) hEY25.cells ?_
          (refine tk1 (v:=?_) rfl (Or.inl ⟨by kernel_rfl,?_⟩) ?_;rotate_left;(· intro W2 _;go_simp;try with_reducible rfl);try simp only [Act.put,Zgj,Zfx,Zge,putG_a,putG_s,putG_z])
          refine tk0 ?_;refine Ze (i:=8) rfl (by kernel_rfl) (fun K hK=>?_);obtain ⟨Y26,hY26⟩:∃ Y,Y25.alloc (.cells #[.bool dn,.slice dA dk dc] 43)=Y:=⟨_,rfl⟩;obtain ⟨ga27,hga27⟩:∃ g,Y25.heap.size=g:=⟨_,rfl⟩
          have hBY26:Below Y25.heap.size Y25 Y26:=by rw [<- hY26];exact (Below.refl _ _).alloc (Nat.le_refl _) _
          have hbl28:Blk Y26 ga27 43 #[.bool dn,.slice dA dk dc]:=by rw [<- hY26,<- hga27];exact Blk.new _ _ _
          have hEY26:=hEY25.below hBY26;have mKY26:=mKY25.below hBY26;go_simp;(try rw [hY26]);(try rw [hga27]);refine hK.out _ _ (fun _=>hEY26.cells) ?_;clear hK K hY26 hga27
          try simp only [Act.put,Zgj,Zfx,Zge]
          refine Ze (i:=9) rfl (by kernel_rfl) (fun K hK=>?_);rw [if_pos (by rfl)];refine Zcg _ (.tmp 68) (.tmp 70) 89 rfl W0.heap.size 43 iW Tryz.underlying89 hi hz0 hz1 hz2 v2 _ rfl hEY26.2.1 _ (some ⟨ga27,0,none⟩) 1 1 [⟨dn,dA,dk,dc,digits ((denTo row x:Nat):Int).natAbs⟩] rfl (Zdy _ hbl28) rfl (by intro e he;rw [List.mem_singleton] at he;subst he;exact ⟨hEY26.2.2.2.1.2.2,hEY26.2.2.2.1.ok⟩) hlen2 mKY26.size ?_;intro vY29 Y29 hPY29 hgY29 hkY29 hwY29;obtain ⟨f1,f2,f3,f4⟩:=hEY26.app hne (OwnP.snoc hPY29 hEY26.2.2.2.1) hgY29 hkY29 hwY29;have mKY29:=mKY26.grownG hgY29 (fun k hk=>hEY26.2.1.row_ge k hk);refine hK.out _ _ (fun _=>⟨by rw [f3.cell];rfl,by rw [f3.cell];rfl⟩) ?_;clear hK K
          try simp only [Act.put,Zgj,Zfx,Zge]
          obtain ⟨a1,a2,a3,rfl⟩:=mM0.isSlice;obtain ⟨a4,a5,a6,rfl⟩:=mP0.isSlice;obtain ⟨a7,a8,a9,rfl⟩:=f1.1.isSlice;obtain ⟨b1,b2,b3,rfl⟩:=f2.isSlice;have hps:=Zeo (x:=.slice a7 a8 a9) (y:=.slice b1 b2 b3) f3 (fun k=>by simp) (fun k=>by simp) (fun k=>by simp) f1 hg3b f2 hg3b;have mKZ:Kept (fun k=>k=g3) W0 ((Y29.setCell ⟨g3,0,none⟩ (.slice a7 a8 a9)).setCell ⟨g3,1,none⟩ (.slice b1 b2 b3)):=(mKY29.set_ (p:=⟨g3,0,none⟩) (.inl rfl) _).set_ (p:=⟨g3,1,none⟩) (.inl rfl) _;have f5:Blk (Y29.setCell ⟨g3,0,none⟩ (.slice a7 a8 a9)) g3 91 #[.slice a7 a8 a9,.slice a4 a5 a6]:=f3.set_ 0 _
          have u0:Y29.cell? ⟨g3,0,none⟩=some (.slice a1 a2 a3):=by rw [f3.cell];rfl
          have uz0:=f3.frozen 0
          have u1:(Y29.setCell ⟨g3,0,none⟩ (.slice a7 a8 a9)).cell? ⟨g3,1,none⟩=some (.slice a4 a5 a6):=by rw [f5.cell];rfl
          have uz1:=f5.frozen 1;obtain ⟨Z9,hZ9⟩:∃ Z,((Y29.setCell ⟨g3,0,none⟩ (.slice a7 a8 a9)).setCell ⟨g3,1,none⟩ (.slice b1 b2 b3))=Z:=⟨_,rfl⟩;rw [hZ9] at hps mKZ;replace hps:=Za hps;replace mKZ:=Za mKZ;clear f1 f2 f3;refine Zu (i:=11) rfl (by kernel_rfl) (by kernel_rfl) (fun K hK=>?_);go_simp;refine hK.out _ _ ?_;clear hK K
          try simp only [Act.put,Zgj,Zfx,Zge]
          refine Zg (i:=12) (v:=?v13) rfl (by kernel_rfl) (by kernel_rfl) (by kernel_rfl) (by kernel_rfl) (Or.inl ⟨by kernel_rfl,?hy13⟩) (fun hno=>absurd hno (by decide)) ?rest13
          case hy13=>(intro W2 _;go_simp;try with_reducible rfl)
          try simp only [Act.put,Zgj,Zfx,Zge,putG_a,putG_s,putG_z]
          refine Zu (i:=13) rfl (by kernel_rfl) (by kernel_rfl) (fun K hK=>?_);go_simp;(try rw [hZ9]);refine hK.out _ _ ?_;clear hK K
          try simp only [Act.put,Zgj,Zfx,Zge]
          refine Zk (by kernel_rfl) ?_ _;refine OnlyNormal.normal ?_;clear hZ9 u0 uz0 u1 uz1 f5;go_wp2_with fail
          go_roundg (n - (i+1))
          case measure=>omega
          case rel =>
           refine ⟨i+1,_,_,L ++ [⟨gO,q3⟩],by omega,by go_num,hps.out.1,hps.out.2.1,Za ?_,?_,Za f4,mKZ.out⟩
           ·rw [List.map_append,hLq.out,List.take_add_one,List.map_append,List.getElem?_eq_getElem (by rw [hl.out];exact hin)]
            congr 1
            have h1:=hrow.out;rw [List.getElem?_eq_getElem (by rw [hl.out];exact hin)] at h1;simp only [Option.getD_some] at h1
            simp [hq3e.out,h1]
           ·rw [List.range_succ,List.map_append]
            have h1:=hps.out.2.2;rw [hDE.out] at h1;exact h1
         ·obtain ⟨Y30,hY30⟩:∃ Y,Y22.alloc (.cells #[.bool dn,.slice dA dk dc] 43)=Y:=⟨_,rfl⟩
          obtain ⟨ga31,hga31⟩:∃ g,Y22.heap.size=g:=⟨_,rfl⟩
          have hBY30:Below Y22.heap.size Y22 Y30:=by rw [<- hY30];exact (Below.refl _ _).alloc (Nat.le_refl _) _
          have hbl32:Blk Y30 ga31 43 #[.bool dn,.slice dA dk dc]:=by rw [<- hY30,<- hga31];exact Blk.new _ _ _
          have hEY30:=hEY22.below hBY30;have mKY30:=mKY22.below hBY30;have hbl24Y30:=Zc hBY30 hbl24;go_simp;(try rw [hY30]);(try rw [hga31]);refine hK.out _ _ (fun _=>hEY30.cells) ?_;clear hK K hY30 hga31
          try simp only [Act.put,Zgj,Zfx,Zge]
          refine Ze (i:=4) rfl (by kernel_rfl) (fun K hK=>?_);rw [if_pos (by rfl)];refine Zcd _ (.tmp 63) (.tmp 65) 88 rfl W0.heap.size 89 iS Tryz.underlying88 ki kz0 kz1 kz2 v1 (L.map RZ.rs) rfl hEY30.1.1 _ (some ⟨ga23,0,none⟩) 1 1 [⟨some ⟨gO,0,none⟩,x,x⟩] rfl (Zd2 hbl24Y30) rfl hlen1 mKY30.size ?_;intro vY33 Y33 hRY33 hgY33 hkY33;have hEY33:=hEY30.app hne hneG (by simp only [RZ.rs,hl3.out];exact hRY33) hgY33 hkY33;have mKY33:=mKY30.grownG hgY33 (fun k hk=>hEY30.1.1.row_ge k hk);have hbl32Y33:=hEY30.far hne hgY33 hbl32;refine hK.out _ _ (fun _=>hEY33.cells) ?_;clear hK K
          try simp only [Act.put,Zgj,Zfx,Zge]
          refine Zfy 1 [10] rfl (by kernel_rfl) hEY33.cells ?_
          (refine tk1 (v:=?_) rfl (Or.inl ⟨by kernel_rfl,?_⟩) ?_;rotate_left;(· intro W2 _;go_simp;try with_reducible rfl);try simp only [Act.put,Zgj,Zfx,Zge,putG_a,putG_s,putG_z])
          refine tk0 ?_;refine Ze (i:=9) rfl (by kernel_rfl) (fun K hK=>?_);rw [if_pos (by rfl)];refine Zcg _ (.tmp 68) (.tmp 70) 89 rfl W0.heap.size 43 iW Tryz.underlying89 hi hz0 hz1 hz2 v2 _ rfl hEY33.2.1 _ (some ⟨ga31,0,none⟩) 1 1 [⟨dn,dA,dk,dc,digits ((denTo row x:Nat):Int).natAbs⟩] rfl (Zdy _ hbl32Y33) rfl (by intro e he;rw [List.mem_singleton] at he;subst he;exact ⟨hEY33.2.2.2.1.2.2,hEY33.2.2.2.1.ok⟩) hlen2 mKY33.size ?_;intro vY34 Y34 hPY34 hgY34 hkY34 hwY34;obtain ⟨f1,f2,f3,f4⟩:=hEY33.app hne (OwnP.snoc hPY34 hEY33.2.2.2.1) hgY34 hkY34 hwY34;have mKY34:=mKY33.grownG hgY34 (fun k hk=>hEY33.2.1.row_ge k hk);refine hK.out _ _ (fun _=>⟨by rw [f3.cell];rfl,by rw [f3.cell];rfl⟩) ?_;clear hK K
          try simp only [Act.put,Zgj,Zfx,Zge]
          obtain ⟨a1,a2,a3,rfl⟩:=mM0.isSlice;obtain ⟨a4,a5,a6,rfl⟩:=mP0.isSlice;obtain ⟨a7,a8,a9,rfl⟩:=f1.1.isSlice;obtain ⟨b1,b2,b3,rfl⟩:=f2.isSlice;have hps:=Zeo (x:=.slice a7 a8 a9) (y:=.slice b1 b2 b3) f3 (fun k=>by simp) (fun k=>by simp) (fun k=>by simp) f1 hg3b f2 hg3b;have mKZ:Kept (fun k=>k=g3) W0 ((Y34.setCell ⟨g3,0,none⟩ (.slice a7 a8 a9)).setCell ⟨g3,1,none⟩ (.slice b1 b2 b3)):=(mKY34.set_ (p:=⟨g3,0,none⟩) (.inl rfl) _).set_ (p:=⟨g3,1,none⟩) (.inl rfl) _;have f5:Blk (Y34.setCell ⟨g3,0,none⟩ (.slice a7 a8 a9)) g3 91 #[.slice a7 a8 a9,.slice a4 a5 a6]:=f3.set_ 0 _
          have u0:Y34.cell? ⟨g3,0,none⟩=some (.slice a1 a2 a3):=by rw [f3.cell];rfl
          have uz0:=f3.frozen 0
          have u1:(Y34.setCell ⟨g3,0,none⟩ (.slice a7 a8 a9)).cell? ⟨g3,1,none⟩=some (.slice a4 a5 a6):=by rw [f5.cell];rfl
          have uz1:=f5.frozen 1;obtain ⟨Z9,hZ9⟩:∃ Z,((Y34.setCell ⟨g3,0,none⟩ (.slice a7 a8 a9)).setCell ⟨g3,1,none⟩ (.slice b1 b2 b3))=Z:=⟨_,rfl⟩;rw [hZ9] at hps mKZ;replace hps:=Za hps;replace mKZ:=Za mKZ;clear f1 f2 f3;refine Zu (i:=11) rfl (by kernel_rfl) (by kernel_rfl) (fun K hK=>?_);go_simp;refine hK.out _ _ ?_;clear hK K
          try simp only [Act.put,Zgj,Zfx,Zge]
          refine Zg (i:=12) (v:=?v15) rfl (by kernel_rfl) (by kernel_rfl) (by kernel_rfl) (by kernel_rfl) (Or.inl ⟨by kernel_rfl,?hy15⟩) (fun hno=>absurd hno (by decide)) ?rest15
          case hy15=>(intro W2 _;go_simp;try with_reducible rfl)
          try simp only [Act.put,Zgj,Zfx,Zge,putG_a,putG_s,putG_z]
          refine Zu (i:=13) rfl (by kernel_rfl) (by kernel_rfl) (fun K hK=>?_);go_simp;(try rw [hZ9]);refine hK.out _ _ ?_;clear hK K
          try simp only [Act.put,Zgj,Zfx,Zge]
          refine Zk (by kernel_rfl) ?_ _;refine OnlyNormal.normal ?_;clear hZ9 u0 uz0 u1 uz1 f5;go_wp2_with fail
          go_roundg (n - (i+1))
          case measure=>omega
          case rel =>
           refine ⟨i+1,_,_,L ++ [⟨gO,q3⟩],by omega,by go_num,hps.out.1,hps.out.2.1,Za ?_,?_,Za f4,mKZ.out⟩
           ·rw [List.map_append,hLq.out,List.take_add_one,List.map_append,List.getElem?_eq_getElem (by rw [hl.out];exact hin)]
            congr 1
            have h1:=hrow.out;rw [List.getElem?_eq_getElem (by rw [hl.out];exact hin)] at h1;simp only [Option.getD_some] at h1
            simp [hq3e.out,h1]
           ·rw [List.range_succ,List.map_append]
            have h1:=hps.out.2.2;rw [hDE.out] at h1;exact h1
        ·obtain ⟨Y35,hY35⟩:∃ Y,X0.alloc (.cells #[.bool dn,.slice dA dk dc] 43)=Y:=⟨_,rfl⟩
         obtain ⟨ga36,hga36⟩:∃ g,X0.heap.size=g:=⟨_,rfl⟩
         have hBY35:Below X0.heap.size X0 Y35:=by rw [<- hY35];exact (Below.refl _ _).alloc (Nat.le_refl _) _
         have hbl37:Blk Y35 ga36 43 #[.bool dn,.slice dA dk dc]:=by rw [<- hY35,<- hga36];exact Blk.new _ _ _
         have hEY35:=hE.below hBY35;have mKY35:=mKX.below hBY35;go_simp;(try rw [hY35]);(try rw [hga36]);refine hK.out _ _ (fun _=>hEY35.cells) ?_;clear hK K hY35 hga36
         try simp only [Act.put,Zgj,Zfx,Zge]
         refine Ze (i:=3) rfl (by kernel_rfl) (fun K hK=>?_);obtain ⟨Y38,hY38⟩:∃ Y,Y35.alloc (.cells #[.slice (some ⟨gO,0,none⟩) x x] 89)=Y:=⟨_,rfl⟩;obtain ⟨ga39,hga39⟩:∃ g,Y35.heap.size=g:=⟨_,rfl⟩
         have hBY38:Below Y35.heap.size Y35 Y38:=by rw [<- hY38];exact (Below.refl _ _).alloc (Nat.le_refl _) _
         have hbl40:Blk Y38 ga39 89 #[.slice (some ⟨gO,0,none⟩) x x]:=by rw [<- hY38,<- hga39];exact Blk.new _ _ _
         have hEY38:=hEY35.below hBY38;have mKY38:=mKY35.below hBY38;have hbl37Y38:=Zc hBY38 hbl37;go_simp;(try rw [hY38]);(try rw [hga39]);refine hK.out _ _ (fun _=>hEY38.cells) ?_;clear hK K hY38 hga39
         try simp only [Act.put,Zgj,Zfx,Zge]
         refine Ze (i:=4) rfl (by kernel_rfl) (fun K hK=>?_);rw [if_pos (by rfl)];refine Zcd _ (.tmp 63) (.tmp 65) 88 rfl W0.heap.size 89 iS Tryz.underlying88 ki kz0 kz1 kz2 v1 (L.map RZ.rs) rfl hEY38.1.1 _ (some ⟨ga39,0,none⟩) 1 1 [⟨some ⟨gO,0,none⟩,x,x⟩] rfl (Zd2 hbl40) rfl hlen1 mKY38.size ?_;intro vY41 Y41 hRY41 hgY41 hkY41;have hEY41:=hEY38.app hne hneG (by simp only [RZ.rs,hl3.out];exact hRY41) hgY41 hkY41;have mKY41:=mKY38.grownG hgY41 (fun k hk=>hEY38.1.1.row_ge k hk);have hbl37Y38Y41:=hEY38.far hne hgY41 hbl37Y38;refine hK.out _ _ (fun _=>hEY41.cells) ?_;clear hK K
         try simp only [Act.put,Zgj,Zfx,Zge]
         refine Zfy 1 [10] rfl (by kernel_rfl) hEY41.cells ?_
         (refine tk1 (v:=?_) rfl (Or.inl ⟨by kernel_rfl,?_⟩) ?_;rotate_left;(· intro W2 _;go_simp;try with_reducible rfl);try simp only [Act.put,Zgj,Zfx,Zge,putG_a,putG_s,putG_z])
         refine tk0 ?_;refine Ze (i:=9) rfl (by kernel_rfl) (fun K hK=>?_);rw [if_pos (by rfl)];refine Zcg _ (.tmp 68) (.tmp 70) 89 rfl W0.heap.size 43 iW Tryz.underlying89 hi hz0 hz1 hz2 v2 _ rfl hEY41.2.1 _ (some ⟨ga36,0,none⟩) 1 1 [⟨dn,dA,dk,dc,digits ((denTo row x:Nat):Int).natAbs⟩] rfl (Zdy _ hbl37Y38Y41) rfl (by intro e he;rw [List.mem_singleton] at he;subst he;exact ⟨hEY41.2.2.2.1.2.2,hEY41.2.2.2.1.ok⟩) hlen2 mKY41.size ?_;intro vY42 Y42 hPY42 hgY42 hkY42 hwY42;obtain ⟨f1,f2,f3,f4⟩:=hEY41.app hne (OwnP.snoc hPY42 hEY41.2.2.2.1) hgY42 hkY42 hwY42;have mKY42:=mKY41.grownG hgY42 (fun k hk=>hEY41.2.1.row_ge k hk);refine hK.out _ _ (fun _=>⟨by rw [f3.cell];rfl,by rw [f3.cell];rfl⟩) ?_;clear hK K
         try simp only [Act.put,Zgj,Zfx,Zge]
         obtain ⟨a1,a2,a3,rfl⟩:=mM0.isSlice;obtain ⟨a4,a5,a6,rfl⟩:=mP0.isSlice;obtain ⟨a7,a8,a9,rfl⟩:=f1.1.isSlice;obtain ⟨b1,b2,b3,rfl⟩:=f2.isSlice;have hps:=Zeo (x:=.slice a7 a8 a9) (y:=.slice b1 b2 b3) f3 (fun k=>by simp) (fun k=>by simp) (fun k=>by simp) f1 hg3b f2 hg3b;have mKZ:Kept (fun k=>k=g3) W0 ((Y42.setCell ⟨g3,0,none⟩ (.slice a7 a8 a9)).setCell ⟨g3,1,none⟩ (.slice b1 b2 b3)):=(mKY42.set_ (p:=⟨g3,0,none⟩) (.inl rfl) _).set_ (p:=⟨g3,1,none⟩) (.inl rfl) _;have f5:Blk (Y42.setCell ⟨g3,0,none⟩ (.slice a7 a8 a9)) g3 91 #[.slice a7 a8 a9,.slice a4 a5 a6]:=f3.set_ 0 _
         have u0:Y42.cell? ⟨g3,0,none⟩=some (.slice a1 a2 a3):=by rw [f3.cell];rfl
         have uz0:=f3.frozen 0
         have u1:(Y42.setCell ⟨g3,0,none⟩ (.slice a7 a8 a9)).cell? ⟨g3,1,none⟩=some (.slice a4 a5 a6):=by rw [f5.cell];rfl
         have uz1:=f5.frozen 1;obtain ⟨Z9,hZ9⟩:∃ Z,((Y42.setCell ⟨g3,0,none⟩ (.slice a7 a8 a9)).setCell ⟨g3,1,none⟩ (.slice b1 b2 b3))=Z:=⟨_,rfl⟩;rw [hZ9] at hps mKZ;replace hps:=Za hps;replace mKZ:=Za mKZ;clear f1 f2 f3;refine Zu (i:=11) rfl (by kernel_rfl) (by kernel_rfl) (fun K hK=>?_);go_simp;refine hK.out _ _ ?_;clear hK K
         try simp only [Act.put,Zgj,Zfx,Zge]
         refine Zg (i:=12) (v:=?v17) rfl (by kernel_rfl) (by kernel_rfl) (by kernel_rfl) (by kernel_rfl) (Or.inl ⟨by kernel_rfl,?hy17⟩) (fun hno=>absurd hno (by decide)) ?rest17
         case hy17=>(intro W2 _;go_simp;try with_reducible rfl)
         try simp only [Act.put,Zgj,Zfx,Zge,putG_a,putG_s,putG_z]
         refine Zu (i:=13) rfl (by kernel_rfl) (by kernel_rfl) (fun K hK=>?_);go_simp;(try rw [hZ9]);refine hK.out _ _ ?_;clear hK K
         try simp only [Act.put,Zgj,Zfx,Zge]
         refine Zk (by kernel_rfl) ?_ _;refine OnlyNormal.normal ?_;clear hZ9 u0 uz0 u1 uz1 f5;go_wp2_with fail
         go_roundg (n - (i+1))
         case measure=>omega
         case rel =>
          refine ⟨i+1,_,_,L ++ [⟨gO,q3⟩],by omega,by go_num,hps.out.1,hps.out.2.1,Za ?_,?_,Za f4,mKZ.out⟩
          ·rw [List.map_append,hLq.out,List.take_add_one,List.map_append,List.getElem?_eq_getElem (by rw [hl.out];exact hin)]
           congr 1
           have h1:=hrow.out;rw [List.getElem?_eq_getElem (by rw [hl.out];exact hin)] at h1;simp only [Option.getD_some] at h1
           simp [hq3e.out,h1]
          ·rw [List.range_succ,List.map_append]
           have h1:=hps.out.2.2;rw [hDE.out] at h1;exact h1
      | succ j =>
       obtain rfl:j=t - (x+1):=by omega
       have hxt:x < t:=by omega
       have t3:decide ((x:Int) < (t:Int))=true:=decide_eq_true (by omega)
       have bx:(x:Int) < (t:Int):=by omega
       obtain ⟨g1,o1,na,A2,n2,c2,nb,B2,m2,d2,rfl,h4,hfr⟩:=(hF.out.below hBx).at_ hxt;obtain ⟨p0,p1,p2,p3⟩:=h4;obtain ⟨f,hf⟩:∃ X:Rat,row[x]?.getD 0=X:=⟨_,rfl⟩;rw [hf] at hfr;have hfd0:Hid (((f.den:Nat):Int) ≠ 0):=Za (by have:=f.den_pos;omega)
       have hms:Hid ((f.num * Int.fdiv ((denTo row t:Nat):Int) ((f.den:Nat):Int)).natAbs < pw 4096):=Za (by
        rw [Zji]
        have h1:((denTo row t / f.den:Nat):Int).natAbs < pw 1000:=by
         rw [Int.natAbs_natCast];exact Nat.lt_of_le_of_lt (Nat.div_le_self _ _) (hdenR.out t (Nat.le_refl t))
        have h2:f.num.natAbs < pw 1000:=by rw [<- hf];exact hnumR.out x
        exact Nat.lt_of_lt_of_le (Zil h2 h1) (Zbk (by decide)))
       obtain ⟨gf,hgf⟩:∃ g,wr.heap.size=g:=⟨_,rfl⟩;obtain ⟨Vf,hVf,hBf,qf,kW,kB,sf⟩:=Zr 45 #[.bool na,.slice A2 n2 c2,.bool nb,.slice B2 m2 d2] (Below.refl wr.heap.size wr) (Nat.le_refl _);have hfV:=hfr.below hBf;have hwV:=hwd.below hBf;have hbdV:=hbd.below hBf hbd.lt;have hOV:=hO3.below hBf;rw [hgf] at qf;obtain ⟨s0,s1,s2,s3,-⟩:=qf.four;obtain ⟨r0,r1,-,-⟩:=hbdV.two;obtain ⟨n5,A5,k5,c5,u0,u1,-⟩:=hOV.at_ (i:=x) (by rw [hl3.out];exact hxt);have uz0:=hOV.frozen (x * 2);have uz1:=hOV.frozen (x * 2+1);have hKf:Hid (Kept (fun k=>k=gO) Wo Vf):=Za (hKo.below hBf);replace hOV:=Za hOV;replace hf:=Za hf;clear hfr hwd hbd kW kB sf hKo qf hbdV hO3 hBox hBx;go_wp2_with fail;(try rw [hgf]);(try rw [hVf]);clear hVf p0 p1 p2 p3;have hSv9:Hid (∀ wx,Below Vf.heap.size Vf wx->wx.cell? ⟨gf,0,none⟩=some (.bool na)/\wx.cell? ⟨gf,1,none⟩=some (.slice A2 n2 c2)/\wx.cell? ⟨gf,2,none⟩=some (.bool nb)/\wx.cell? ⟨gf,3,none⟩=some (.slice B2 m2 d2)/\wx.cell? ⟨gd,0,none⟩=some (.bool dn)/\wx.cell? ⟨gd,1,none⟩=some (.slice dA dk dc)):=Za (fun wx hbx=>⟨Zb hbx s0,Zb hbx s1,Zb hbx s2,Zb hbx s3,Zb hbx r0,Zb hbx r1⟩);have hr9:Below Vf.heap.size Vf Vf.drew:=Zf (Below.refl _ _) 1;refine wp_heldS [10] hmx hSv9 hr9 (fun hxs9=>?_);refine Zfy 2 [0,1] rfl (by kernel_rfl) (hSv9.out _ hr9) ?_
       iterate 2 (refine tk1 (v:=?_) rfl (Or.inl ⟨by kernel_rfl,?_⟩) ?_;rotate_left;(· intro W2 _;go_simp;try with_reducible rfl);try simp only [Act.put,Zgj,Zfx,Zge,putG_a,putG_s,putG_z])
       refine tk0 ?_;refine Zi4 5 [2,3,4,5,6] rfl (by kernel_rfl) (hSv9.out _ hr9) ?_
       iterate 5 (refine tk1 (v:=?_) rfl (Or.inl ⟨by kernel_rfl,?_⟩) ?_;rotate_left;(· intro W2 hSw;(try dsimp only at hSw);go_simp;try with_reducible rfl);try simp only [Act.put,Zgj,Zfx,Zge,putG_a,putG_s,putG_z])
       refine tk0 ?_;refine Ze (i:=7) rfl (by kernel_rfl) (fun K hK=>?_);go_simp;refine (Zn7 dn nb dA B2 dk dc m2 d2 _ _ Vf.drew (hwV.below hr9) (hfV.2.below hr9) hfd0.out).mono ?_;rintro e w21 ⟨hb21,n21,A21,k21,c21,rfl,hf21⟩;have hr21:=hr9.trans (hb21.mono hr9.size);refine hK.out _ _ (fun _=>hSv9.out _ hr21) ?_;clear hK K
       try simp only [Act.put,Zgj,Zfx,Zge]
       refine Ze (i:=8) rfl (by kernel_rfl) (fun K hK=>?_);go_simp;refine (Zc5 na n21 A2 A21 n2 c2 k21 c21 _ _ w21 (hfV.1.below hr21) hf21 hms.out).mono ?_;rintro e w22 ⟨hb22,n22,A22,k22,c22,rfl,hf22⟩;have hr22:=hr21.trans (hb22.mono hr21.size);refine hK.out _ _ (fun _=>hSv9.out _ hr22) ?_;clear hK K
       try simp only [Act.put,Zgj,Zfx,Zge]
       refine Zfy 1 [9] rfl (by kernel_rfl) (hSv9.out _ hr22) ?_
       (refine tk1 (v:=?_) rfl (Or.inl ⟨by kernel_rfl,?_⟩) ?_;rotate_left;(· intro W2 _;go_simp;try with_reducible rfl);try simp only [Act.put,Zgj,Zfx,Zge,putG_a,putG_s,putG_z])
       refine tk0 ?_;have hOZ:=hOV.out.below hr22;obtain ⟨Z9,hZ9⟩:∃ W,(w22.setCell ⟨gO,x * 2,none⟩ (.bool n22)).setCell ⟨gO,x * 2+1,none⟩ (.slice A22 k22 c22)=W:=⟨_,rfl⟩;have hK9:Hid (Kept (fun k=>k=gO) Wo Z9):=Za (by rw [<- hZ9];exact ((hKf.out.below hr22).set_ (p:=⟨gO,x * 2,none⟩) (.inl rfl) _).set_ (p:=⟨gO,x * 2+1,none⟩) (.inl rfl) _);have hO9:Hid (POwn 43 Z9 gO (q3.set x (f.num * Int.fdiv ((denTo row t:Nat):Int) ((f.den:Nat):Int)))):=Za (by rw [<- hZ9];exact hOZ.set_ (by rw [hl3.out];exact hxt) hf22);have g0:=Zb hr22 u0;have g1':=Zb hr22 u1;have f0:=Zj hr22 u0 uz0;have f1:=Zj hr22 u1 uz1;clear hOZ;refine Zu (i:=10) rfl (by kernel_rfl) (by kernel_rfl) (fun K hK=>?_);go_simp;(try rw [hZ9]);refine hK.out _ _ ?_;clear hK K
       try simp only [Act.put,Zgj,Zfx,Zge]
       refine Zk (by kernel_rfl) ?_ _;refine OnlyNormal.normal ?_;clear hZ9 f0 f1 g0 g1' hb21 hb22 hr9 hr21 hr22 hSv9 hxs9 r0 r1 s0 s1 s2 s3 hf21 hf22 hwV hfV hOV u0 u1 uz0 uz1;go_wp2_with fail
       go_roundg (t - (x+1))
       case measure=>omega
       case rel =>
        refine ⟨x+1,_,by omega,by go_num,hO9.out,Za (by rw [List.length_set];exact hl3.out),Za (fun y=>?_),hK9.out⟩;rw [List.getElem?_set]
        by_cases hy:x=y
        ·subst hy
         rw [if_pos rfl,if_pos (by rw [hl3.out];exact hxt),if_pos (by omega),Zji,hf.out];rfl
        ·rw [if_neg hy,hq3.out y]
         by_cases h1:y < x
         ·rw [if_pos h1,if_pos (by omega)]
         ·rw [if_neg h1,if_neg (by omega)]
    | succ j =>
     obtain rfl:j=n1 - (t+1):=by omega
     have htm:t < n1:=by omega
     have t2:decide ((t:Int) < (n1:Int))=true:=decide_eq_true (by omega)
     have bt:(t:Int) < (n1:Int):=by omega
     obtain ⟨g1,o1,na,A2,n2,c2,nb,B2,m2,d2,rfl,h4,hfr⟩:=(hF.out.below hBx).at_ htm;obtain ⟨p0,p1,p2,p3⟩:=h4;obtain ⟨f,hf⟩:∃ X:Rat,row[t]?.getD 0=X:=⟨_,rfl⟩;rw [hf] at hfr
     have hfd:f.den < pw 1000:=by rw [<- hf];exact Nat.lt_of_le_of_lt (Zoo row (Nat.lt_succ_self t)) (hdenR.out (t+1) (by omega))
     have hstep:Hid (denTo row (t+1)=denTo row t * (f.den / Nat.gcd (denTo row t) f.den)):=Za (by rw [<- hf];rfl);have hgcdp:0 < Nat.gcd (denTo row t) f.den:=Nat.gcd_pos_of_pos_left _ (Zd0 row t)
     have hgs:Hid (((Nat.gcd (denTo row t) f.den:Nat):Int).natAbs < pw 4096):=Za (by
      rw [Int.natAbs_natCast]
      exact Nat.lt_of_le_of_lt (Nat.le_of_dvd (Zd0 row t) (Nat.gcd_dvd_left _ _)) (Nat.lt_of_lt_of_le (hdenR.out t (by omega)) (Zbk (by decide))))
     obtain ⟨gf,hgf⟩:∃ g,wr.heap.size=g:=⟨_,rfl⟩;obtain ⟨Vf,hVf,hBf,qf,kW,kB,sf⟩:=Zr 45 #[.bool na,.slice A2 n2 c2,.bool nb,.slice B2 m2 d2] (Below.refl wr.heap.size wr) (Nat.le_refl _);have hfV:=hfr.below hBf;have hwV:=hwd.below hBf;have hbdV:=hbd.below hBf hbd.lt;rw [hgf] at qf;obtain ⟨s0,s1,s2,s3,-⟩:=qf.four;obtain ⟨r0,r1,-,-⟩:=hbdV.two;have hKf:Hid (Kept (fun k=>k=gd) V Vf):=Za (hKd.below hBf);replace qf:=Za qf;replace hbdV:=Za hbdV;replace hf:=Za hf;clear hfr hwd hbd kW kB sf hKd;go_wp2_with fail;(try rw [hgf]);(try rw [hVf]);refine (Zjv dn nb dA B2 dk dc m2 d2 _ _ Vf hwV hfV.2).mono ?_;rw [Int.natAbs_natCast,Int.natAbs_natCast];rintro e w2 ⟨hb2,n3,A3,k3,c3,code,rfl,hR⟩;have hG:=hR.small hgs.out;have q2f:=Zc hb2 qf.out;have q2d:=Zc hb2 hbdV.out;have hw2:=hwV.below hb2;have hf2:=hfV.2.below hb2;have hK2:Hid (Kept (fun k=>k=gd) V w2):=Za (hKf.out.below hb2);clear s0 s1 s2 s3 r0 r1 hwV hfV qf hbdV hb2 hR hVf p0 p1 p2 p3;obtain ⟨gc,hgc⟩:∃ g,w2.heap.size=g:=⟨_,rfl⟩;obtain ⟨Vc,hVc,hBc,qc,kW,kB,sc⟩:=Zr 43 #[.bool n3,.slice A3 k3 c3] (Below.refl w2.heap.size w2) (Nat.le_refl _);have hGc:=hG.below hBc;have hwc:=hw2.below hBc;have hfc:=hf2.below hBc;have q3f:=q2f.below hBc q2f.lt;have q3d:=q2d.below hBc q2d.lt;have hKc:Hid (Kept (fun k=>k=gd) V Vc):=Za (hK2.out.below hBc);rw [hgc] at qc;obtain ⟨-,-,s2,s3,-⟩:=q3f.four;obtain ⟨r0,r1,rz0,rz1⟩:=q3d.two;obtain ⟨y0,y1,-,-⟩:=qc.two;have hgcd0:Hid (((Nat.gcd (denTo row t) f.den:Nat):Int) ≠ 0):=Za (by omega)
     have hms:Hid ((((denTo row t:Nat):Int) * Int.fdiv ((f.den:Nat):Int) ((Nat.gcd (denTo row t) f.den:Nat):Int)).natAbs < pw 4096):=Za (by
      rw [Zji,<- Int.natCast_mul,<- hstep.out,Int.natAbs_natCast]
      exact Nat.lt_of_lt_of_le (hdenR.out (t+1) (by omega)) (Zbk (by decide)))
     replace q3d:=Za q3d;clear hG hw2 hf2 q2f q2d q3f qc kW kB sc hBc hK2;go_wp2_with fail;(try rw [hgc]);(try rw [hVc]);replace hgf:=Za hgf;replace hgc:=Za hgc;clear hVc;have hSv9:Hid (∀ wx,Below Vc.heap.size Vc wx->wx.cell? ⟨gd,0,none⟩=some (.bool dn)/\wx.cell? ⟨gd,1,none⟩=some (.slice dA dk dc)/\wx.cell? ⟨gf,2,none⟩=some (.bool nb)/\wx.cell? ⟨gf,3,none⟩=some (.slice B2 m2 d2)/\wx.cell? ⟨gc,0,none⟩=some (.bool n3)/\wx.cell? ⟨gc,1,none⟩=some (.slice A3 k3 c3)):=Za (fun wx hbx=>⟨Zb hbx r0,Zb hbx r1,Zb hbx s2,Zb hbx s3,Zb hbx y0,Zb hbx y1⟩);have hr9:Below Vc.heap.size Vc Vc.drew:=Zf (Below.refl _ _) 1;refine wp_heldS [6] hmx hSv9 hr9 (fun hxs9=>?_);refine Zi4 4 [0,1,2,3] rfl (by kernel_rfl) (hSv9.out _ hr9) ?_
     iterate 4 (refine tk1 (v:=?_) rfl (Or.inl ⟨by kernel_rfl,?_⟩) ?_;rotate_left;(· intro W2 hSw;(try dsimp only at hSw);go_simp;try with_reducible rfl);try simp only [Act.put,Zgj,Zfx,Zge,putG_a,putG_s,putG_z])
     refine tk0 ?_;refine Ze (i:=4) rfl (by kernel_rfl) (fun K hK=>?_);go_simp;refine (Zn7 nb n3 B2 A3 m2 d2 k3 c3 _ _ Vc.drew (hfc.below hr9) (hGc.below hr9) hgcd0.out).mono ?_;rintro e w21 ⟨hb21,n21,A21,k21,c21,rfl,hf21⟩;have hr21:=hr9.trans (hb21.mono hr9.size);refine hK.out _ _ (fun _=>hSv9.out _ hr21) ?_;clear hK K
     try simp only [Act.put,Zgj,Zfx,Zge]
     refine Ze (i:=5) rfl (by kernel_rfl) (fun K hK=>?_);go_simp;refine (Zc5 dn n21 dA A21 dk dc k21 c21 _ _ w21 (hwc.below hr21) hf21 hms.out).mono ?_;rintro e w22 ⟨hb22,n22,A22,k22,c22,rfl,hf22⟩;have hr22:=hr21.trans (hb22.mono hr21.size);refine hK.out _ _ (fun _=>hSv9.out _ hr22) ?_;clear hK K
     try simp only [Act.put,Zgj,Zfx,Zge]
     obtain ⟨Z9,hZ9,hBZ,q9,st⟩:=Zav (B:=gd) n22 A22 k22 c22 (Below.refl gd w22) (Nat.le_refl gd) (q3d.out.below hr22 q3d.out.lt)
     have hf9:Hid (Wd Z9 n22 A22 k22 c22 ((denTo row (t+1):Nat):Int)):=Za (by
      have h1:=st.1 _ _ _ _ _ hf22;rw [Zji,<- Int.natCast_mul,<- hstep.out] at h1
      exact h1)
     have hK9:Hid (Kept (fun k=>k=gd) V Z9):=Za (by rw [<- hZ9];exact ((hKc.out.below hr22).set_ (p:=⟨gd,0,none⟩) (.inl rfl) _).set_ (p:=⟨gd,1,none⟩) (.inl rfl) _);have g0:=Zb hr22 r0;have g1:=Zb hr22 r1;have f0:=Zj hr22 r0 rz0;have f1:=Zj hr22 r1 rz1;refine Zu (i:=6) rfl (by kernel_rfl) (by kernel_rfl) (fun K hK=>?_);go_simp;(try rw [hZ9]);refine hK.out _ _ ?_;clear hK K
     try simp only [Act.put,Zgj,Zfx,Zge]
     refine Zk (by kernel_rfl) ?_ _;refine OnlyNormal.normal ?_;clear hZ9 f0 f1 g0 g1 hb21 hb22 hr9 hr21 hr22 hSv9 hxs9 r0 r1 rz0 rz1 s2 s3 y0 y1 hf21 hf22 st hBZ hGc hwc hfc q3d;go_wp2_with fail
     go_roundg (n1 - (t+1))
     case measure=>omega
     case rel=>exact ⟨t+1,n22,A22,k22,c22,by omega,by go_num,q9,hf9.out,hK9.out⟩
end Go.Proofs.YtigdclhagmnopaaGreat
