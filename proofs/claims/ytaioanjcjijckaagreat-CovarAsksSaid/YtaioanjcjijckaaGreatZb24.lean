/- A matrix of fractions that grows row by row; the -/
import Derived.Test.YtaioanjcjijckaaGreatZb23
set_option linter.unusedSimpArgs false
set_option linter.unusedVariables false
namespace Go.Proofs.YtaioanjcjijckaaGreat
open Go.RowKit
attribute [local go_sem] Zf
section
variable {P:Program} (w:World)
theorem Zbh {o:Oper} {a:Act} {K:Act->World->Prop} {Q:Exit->Act->World->Prop} (s x:Operand) (t:TypeId)
    (ho:o.op=.call { callee:=.builtin .append,args:=#[s,x],argTypes:=#[t,t] })
    (base:Nat) (e:TypeId) (i:TypeInfo) (ht:P.underlying t=some (.slice e)) (hi:P.info? e=some i) (hz:i.zero=some (.slice none 0 0)) (hsi:i.size=1) (hby:i.bytes=24)
    (v:Value) (rs:List RS) (hs:a.eval s=v) (hown:RowS e w base v rs)
    (B:Nat) (A:Option Addr) (m c:Nat) (fs:List RS) (hx:a.eval x=.slice A m c) (hr:Reads w B 1 A m (Zan fs)) (hm:fs.length=m)
    (h63:rs.length+m <= 1000) (hbase:base <= w.heap.size)
    (h:∀ v' w',RowS e w' base v' (rs ++ fs)->w.grownBy w' v.ownBlock->(∀ (A:Option Addr) (n c:Nat) (l:List Nat),Lim w A n c l->Lim w' A n c l)->K (a.put o.dst v') w'):o.wp P a w K Q:=by
 obtain ⟨v',w',hrun,h3,h4⟩:=Zj3 (P:=P) w base t o.type e i ht hi hz hsi hby v rs hown B A m c fs hr hm h63 hbase;unfold Oper.wp execOp;simp only [ho,resolve,invoke,builtin,Sem.run_bind,Sem.run_pure,Result.andThen_ok,List.map_toArray,List.map_cons,List.map_nil,hs,hx,hrun];exact h v' w' h3 h4 (fun _ _ _ _ hL=>hown.keep h4 hL)
end
theorem FL.reads {w:World} {A:Option Addr} {n c:Nat} {qs:List Rat} (h:FL w A n c qs):∃ fs:List FE,Reads w w.heap.size 4 A n (Zr fs)/\fs.length=n/\(∀ e ∈ fs,e.in_ w)/\fs.map FE.q=qs:=by
 obtain ⟨es,h1,h2,h3,h4,h5,h6⟩:=h;refine ⟨es,⟨by rw [Zy,h1],fun hn=>?_⟩,h1,h4,h5⟩;obtain ⟨g,o,e1,hc⟩:=h6 hn;refine ⟨⟨g,o,none⟩,e1,?_,fun j u hu=>?_⟩
 ·have:=(hc 0 es[0] (List.getElem?_eq_getElem (by omega))).1
  exact Z0 this
 ·rw [Zf]
  have hj:j < es.length * 4:=by
   have:=(List.getElem?_eq_some_iff.1 hu).1
   rwa [Zy] at this
  have he:=List.getElem?_eq_getElem (show j / 4 < es.length by omega);have hg:=Zfq he;have hm:=hc (j / 4) _ he
  have h4:j % 4=0 \/ j % 4=1 \/ j % 4=2 \/ j % 4=3:=by omega
  rcases h4 with h2 | h2 | h2 | h2
  ·rw [show j / 4 * 4=j by omega] at hg hm;rw [hg.1] at hu;cases hu;exact hm.1
  ·rw [show j / 4 * 4+1=j by omega] at hg hm;rw [hg.2.1] at hu;cases hu;exact hm.2.1
  ·rw [show j / 4 * 4+2=j by omega] at hg hm;rw [hg.2.2.1] at hu;cases hu;exact hm.2.2.1
  ·rw [show j / 4 * 4+3=j by omega] at hg hm;rw [hg.2.2.2] at hu;cases hu;exact hm.2.2.2
theorem Zq5:(Tryz.prog.info? 29).map (fun i=>(i.zero,i.size,i.bytes))=some (some (.agg #[.bool false,.slice none 0 0,.bool false,.slice none 0 0]),4,64):=by kernel_rfl
theorem infoRow:(Tryz.prog.info? 23).map (fun i=>(i.zero,i.size,i.bytes))=some (some (.slice none 0 0),1,24):=by kernel_rfl
def MatO (tS tF:TypeId) (w:World) (base:Nat) (v:Value) (L:List RF):Prop:=
 RowS tS w base v (L.map RF.rs)/\(∀ r ∈ L,(FOwn tF w r.g r.q/\r.q.length <= r.c/\r.c <= maxLen)/\base <= r.g)/\(L.map RF.g).Nodup
theorem Blk.type {w:World} {g:Nat} {t t':TypeId} {cs cs':Array Value} (h:Blk w g t cs) (h':Blk w g t' cs'):t=t':=by
 unfold Blk at h h';rw [h] at h'
 cases h';rfl
section
variable {tS tF:TypeId} {w w':World} {base:Nat} {v v':Value} {L:List RF}
theorem MatO.nil (tS tF:TypeId) (w:World) (base:Nat):MatO tS tF w base (.slice none 0 0) []:=⟨.inl ⟨rfl,rfl⟩,fun r hr=>(by cases hr),List.nodup_nil⟩
theorem MatO.kept (h:MatO tS tF w base v L) (hb:Below w.heap.size w w'):MatO tS tF w' base v L:=⟨h.1.kept hb,fun r hr=>⟨⟨(h.2.1 r hr).1.1.below hb,(h.2.1 r hr).1.2⟩,(h.2.1 r hr).2⟩,h.2.2⟩
theorem RowS.ownType {rs:List RS} (h:RowS tS w base v rs) {g:Nat} {cs:Array Value} (hb:Blk w g tF cs) (hne:tS ≠ tF):v.ownBlock ≠ some g:=by
 rintro e
 rcases h with ⟨rfl,_⟩ | ⟨g',sp,rfl,_,_,h4⟩
 ·cases e
 ·have:g'=g:=by simpa [Value.ownBlock] using e
  subst this;exact hne (h4.type hb)
theorem FOwn.grown {g:Nat} {qs:List Rat} (h:FOwn tF w g qs) (hg:w.grownBy w' v.ownBlock) (hne:v.ownBlock ≠ some g) (hk:∀ (A:Option Addr) (n c:Nat) (l:List Nat),Lim w A n c l->Lim w' A n c l):FOwn tF w' g qs:=by
 obtain ⟨es,zs,h1,h2,h3⟩:=h;exact ⟨es,zs,(hg.block g h1.lt (fun e=>hne (by first | exact e | exact e.symm))).trans h1,fun e he=>(h2 e he).of_keep hk,h3⟩
theorem MatO.snoc (h:MatO tS tF w base v L) (hne:tS ≠ tF) {r:RF} (hr:FOwn tF w r.g r.q/\r.q.length <= r.c/\r.c <= maxLen) (hbr:base <= r.g) (hnew:∀ s ∈ L,s.g ≠ r.g) (h1:RowS tS w' base v' (L.map RF.rs ++ [r.rs])) (hg:w.grownBy w' v.ownBlock)
    (hk:∀ (A:Option Addr) (n c:Nat) (l:List Nat),Lim w A n c l->Lim w' A n c l):MatO tS tF w' base v' (L ++ [r]):=by
 have ow:∀ {s:RF},FOwn tF w s.g s.q->v.ownBlock ≠ some s.g:=fun hs=>by obtain ⟨es,zs,q1,-,-⟩:=hs;exact h.1.ownType q1 hne
 refine ⟨by rw [List.map_append];exact h1,fun s hs=>?_,?_⟩
 ·rcases List.mem_append.1 hs with hs | hs
  ·have:=h.2.1 s hs
   exact ⟨⟨this.1.1.grown hg (ow this.1.1) hk,this.1.2⟩,this.2⟩
  ·rw [List.mem_singleton] at hs
   subst hs;exact ⟨⟨hr.1.grown hg (ow hr.1) hk,hr.2⟩,hbr⟩
 ·rw [List.map_append,List.nodup_append]
  refine ⟨h.2.2,by simp,fun a ha b hb=>?_⟩;obtain ⟨s,hs,rfl⟩:=List.mem_map.1 ha;simp only [List.map_cons,List.map_nil,List.mem_singleton] at hb;rw [hb];exact hnew s hs
theorem MatO.mat (h:MatO tS tF w base v L) (hne:tS ≠ tF) (hl:L ≠ []):∃ go cap,v=.slice (some ⟨go,0,none⟩) L.length cap/\L.length <= cap/\cap <= maxLen/\base <= go/\MatB tS tF w go L/\∀ r ∈ L,base <= r.g:=by
 rcases h.1 with ⟨-,h2⟩ | ⟨go,sp,rfl,h2,h3,h4⟩
 ·exact absurd (List.map_eq_nil_iff.1 h2) hl
 ·refine ⟨go,_,by rw [List.length_map],by rw [List.length_map];omega,h3,h2,⟨⟨_,h4⟩,fun r hr=>(h.2.1 r hr).1,?_⟩,fun r hr=>(h.2.1 r hr).2⟩
  refine List.nodup_cons.2 ⟨fun hm=>?_,h.2.2⟩;obtain ⟨r,hr,e⟩:=List.mem_map.1 hm;obtain ⟨es,zs,q1,-,-⟩:=(h.2.1 r hr).1.1;rw [e] at q1;exact hne (h4.type q1)
end
section
variable {tF:TypeId} {w w':World} {base:Nat} {part:List Rat} {cs:Array Value}
theorem OwnF.ownBlk {v:Value} (h:OwnF tF w base v part):∀ k,v.ownBlock=some k->∃ cs,Blk w k tF cs/\NoLimb cs/\base <= k:=fun k hk=>by
 obtain ⟨es,h1,h2,h3⟩:=h
 rcases h1 with ⟨rfl,_⟩ | ⟨g',sp,rfl,h4,h5,h6⟩
 ·cases hk
 ·have:g'=k:=by simpa [Value.ownBlock] using hk
  subst this;exact ⟨_,h6,Zb6 _,h4⟩
theorem OwnF.keptG {v:Value} (h:OwnF tF w base v part) {g':Nat} {t':TypeId} (hb:Blk w g' t' cs) (hn:NoLimb cs) (hne:v.ownBlock ≠ some g') (hk:Kept (fun k=>k=g') w w'):OwnF tF w' base v part:=by
 have hG:∀ k,k=g'->∃ t cs,Blk w k t cs/\NoLimb cs:=fun k hk=>⟨t',cs,hk ▸ hb,hn⟩
 obtain ⟨es,h1,h2,h3⟩:=h;refine ⟨es,?_,fun e he=>⟨hk.wd (h2 e he).1 hG,hk.wd (h2 e he).2 hG⟩,h3⟩
 rcases h1 with h | ⟨g2,sp,rfl,h4,h5,h6⟩
 ·exact .inl h
 ·exact .inr ⟨g2,sp,rfl,h4,h5,hk.blk h6 (fun e=>hne (by rw [<- e];rfl))⟩
end
theorem RowS.mfl {tS:TypeId} {w:World} {base:Nat} {v:Value} {rs:List RS} {Q:List (List Rat)} (h:RowS tS w base v rs) (hl:rs.length=Q.length) (hF:∀ (i:Nat) (r:RS),rs[i]?=some r->FL w r.A r.n r.c (Q[i]?.getD [])):∃ A c,v=.slice A rs.length c/\MFL w A rs.length c Q:=by
 rcases h with ⟨rfl,rfl⟩ | ⟨g,sp,rfl,h2,h3,h4⟩
 ·exact ⟨none,0,rfl,hl.symm,Nat.le_refl _,Nat.zero_le _,fun h=>absurd h (by simp)⟩
 ·refine ⟨_,_,rfl,hl.symm,by omega,h3,fun _=>⟨g,0,rfl,fun k q hq=>?_⟩⟩
  have hk:k < rs.length:=by rw [hl];exact (List.getElem?_eq_some_iff.1 hq).1
  have he:=List.getElem?_eq_getElem hk;refine ⟨rs[k].A,rs[k].n,rs[k].c,?_,?_⟩
  ·rw [Nat.zero_add,h4.cell]
   exact Zis (e:=rs[k]) (by rw [List.getElem?_append_left hk];exact he)
  ·have:=hF k _ he
   rw [hq] at this;exact this
theorem Fr.pos_iff {w:World} {na:Bool} {A:Option Addr} {n c:Nat} {nb:Bool} {B:Option Addr} {m d:Nat} {r:Rat} (h:Fr w na A n c nb B m d r):(na=false/\n ≠ 0) ↔ 0 < r:=by
 have h1:=h.1.1;have h2:=h.zero_iff
 constructor
 ·rintro ⟨h3,h4⟩
  rw [h3] at h1
  have h5:¬ r.num < 0:=by simpa using h1.symm
  have h6:r.num ≠ 0:=fun e=>h4 (h2.2 (Rat.num_eq_zero.1 e))
  have h7:0 <= r.num:=by omega
  have h8:0 <= r:=Rat.num_nonneg.1 h7
  have h9:(0:Rat) ≠ r:=fun e=>h6 (by rw [<- e];rfl)
  exact Rat.lt_of_le_of_ne h8 h9
 ·intro h3
  have h5:=Rat.num_nonneg.2 (Rat.le_of_lt h3);refine ⟨by rw [h1];exact decide_eq_false (by omega),fun e=>?_⟩;have:=h2.1 e;rw [this] at h3;exact absurd h3 (by decide)
section
variable {P:Program} (w:World)
theorem Zip (base:Nat) (t ty e:TypeId) (i:TypeInfo) (ht:P.underlying t=some (.slice e)) (hi:P.info? e=some i) (hz:i.zero=some (.agg #[.bool false,.slice none 0 0,.bool false,.slice none 0 0]))
    (hs:i.size=4) (hby:i.bytes=64) (v:Value) (es:List FE) (hown:RowF e w base v es)
    (B:Nat) (A:Option Addr) (m c:Nat) (fs:List FE) (hr:Reads w B 4 A m (Zr fs)) (hm:fs.length=m) (h63:es.length+m <= 1000) (hbase:base <= w.heap.size) :
    ∃ v' w',(Builtin.append_ #[t,t] ty #[v,.slice A m c]).run P w=.ok v' w'/\RowF e w' base v' (es ++ fs)/\w.grownBy w' v.ownBlock/\(v'.ownBlock=v.ownBlock \/ ∀ k,v'.ownBlock=some k->w.heap.size <= k):=by
 rcases Nat.eq_zero_or_pos m with h0 | h0
 ·subst h0
  obtain rfl:fs=[]:=List.eq_nil_of_length_eq_zero hm;rw [List.append_nil]
  rcases A with _ | ad
  ·exact ⟨v,w,Zck w base t ty e i 4 ht hi v _ _ hown.own c,hown,World.grownBy.refl w _,.inl rfl⟩
  ·have hf:=run_firstCells_some (P:=P) w i.size 0 ad 0 c [] (by simp) (by simp)
   rcases hown with ⟨rfl,rfl⟩ | ⟨g,sp,rfl,h2,h3,h4⟩
   ·refine ⟨.slice none 0 0,w,?_,.inl ⟨rfl,rfl⟩,World.grownBy.refl w _,.inl rfl⟩
    simp [Builtin.append_,run_underlying ht,sizeOf,typeInfo,hi,Builtin.lenOf,Builtin.firstCells,loadCells,loadCellsFrom]
   ·refine ⟨_,w,?_,.inr ⟨g,sp,rfl,h2,h3,h4⟩,World.grownBy.refl w _,.inl rfl⟩
    simp [Builtin.append_,run_underlying ht,sizeOf,typeInfo,hi,Builtin.lenOf,Builtin.firstCells,loadCells,loadCellsFrom,storeCells]
 ·obtain ⟨ad,rfl,_,hc⟩:=hr.2 h0
  have hl:(Zr fs).length=m * i.size:=by rw [Zy,hm,hs]
  have hle:es.length * i.size=(Zr es).length:=by rw [Zy,hs]
  rcases hown with ⟨rfl,rfl⟩ | ⟨g,sp,rfl,h2,h3,h4⟩
  ·have hrun:=run_append_nil (P:=P) w t ty e i _ ht hi hz ad m c (Zr fs) hl hc h0 (by omega) (by rw [hby];omega)
   have hge:=grownCap_ge w m 0 e;have hcm:=grownCap_le_maxLen w m 0 e (by unfold maxLen;simp only [List.length_nil] at h63;omega);refine ⟨_,_,hrun,.inr ⟨w.heap.size,grownCap w m 0 e - m,?_,hbase,?_,?_⟩,⟨rfl,rfl,rfl,by simp,fun k hk _=>Below.heap_alloc w.drew _ k hk⟩,.inr (fun k hk=>by first | (simp [Value.ownBlock] at hk;omega) | (cases hk;exact Nat.le_refl _))⟩
   ·rw [List.nil_append,hm,Nat.add_sub_cancel' hge]
   ·rw [List.nil_append,hm,Nat.add_sub_cancel' hge];exact hcm
   ·have:=heap_alloc_new w.drew (.cells ((Zr fs).toArray ++ Builtin.zeroCells (Value.agg #[.bool false,.slice none 0 0,.bool false,.slice none 0 0]).cells (grownCap w m 0 e - m)) e)
    unfold Blk;refine this.trans ?_
    congr 1
    have hx:(Zr fs).toArray ++ Builtin.zeroCells (Value.agg #[.bool false,.slice none 0 0,.bool false,.slice none 0 0]).cells (grownCap w m 0 e - m)=Zag ([] ++ fs ++ List.replicate (grownCap w m 0 e - m) Za0):=by
     apply Array.toList_inj.1
     rw [Array.toList_append,show (Value.agg #[.bool false,.slice none 0 0,.bool false,.slice none 0 0]).cells=#[.bool false,.slice none 0 0,.bool false,.slice none 0 0] from rfl,Zdg]
     simp [Zag,Zau]
    rw [hx]
  ·by_cases hroom:m <= sp
   ·have hrun:=run_append_room (P:=P) w t ty e i ht hi g es.length (es.length+sp) _ h4 ad m c (Zr fs) hl hc (Zka fs) (by omega) (by rw [hle,Zy,Zy];simp [Zag,Zy];omega)
    refine ⟨_,_,hrun,.inr ⟨g,sp - m,?_,h2,?_,?_⟩,⟨rfl,rfl,rfl,by simp [World.setRow],fun k _ hk=>setRow_other w g k _ (fun e'=>hk (by simp [Value.ownBlock,e']))⟩,.inl rfl⟩
    ·rw [List.length_append,hm,show es.length+m+(sp - m)=es.length+sp by omega]
    ·rw [List.length_append,hm];omega
    ·refine (setRow_heap w g _ _ e _ h4).trans ?_
     congr 2
     unfold Zag
     congr 1
     rw [hle]
     have hrep:List.replicate sp Za0=List.replicate m Za0 ++ List.replicate (sp - m) Za0:=by rw [List.replicate_append_replicate];congr 1;omega
     have hlm:(Zr fs).length=(Zr (List.replicate m Za0)).length:=by rw [Zy,Zy,hm,List.length_replicate]
     simp only [Zau];rw [List.take_left,hlm,<- List.length_append,hrep,Zau,<- List.append_assoc (Zr es),List.drop_left,List.append_assoc]
   ·have holds:∀ j u,(Zr es)[j]?=some u->w.cell? ((⟨g,0,none⟩:Addr).add j)=some u:=fun j u hu=>by
      rw [Zf,Nat.zero_add,h4.cell];simp only [Zag,List.getElem?_toArray,Zau];rw [List.getElem?_append_left (by rw [List.getElem?_eq_some_iff] at hu;exact hu.1)];exact hu
    have hrun:=run_append_grow (P:=P) w t ty e i _ ht hi hz ⟨g,0,none⟩ es.length (es.length+sp) (Zr es) hle.symm holds ad m c (Zr fs) hl hc (by omega) (by omega) (growslice_fits (by omega) (by rw [hby];omega));have hge:=grownCap_ge w (es.length+m) (es.length+sp) e;have hcm:=grownCap_le_maxLen w (es.length+m) (es.length+sp) e (by unfold maxLen;omega);refine ⟨_,_,hrun,.inr ⟨w.heap.size,grownCap w (es.length+m) (es.length+sp) e - (es.length+m),?_,hbase,?_,?_⟩,⟨rfl,rfl,rfl,by simp,fun k hk _=>Below.heap_alloc w.drew _ k hk⟩,.inr (fun k hk=>by first | (simp [Value.ownBlock] at hk;omega) | (cases hk;exact Nat.le_refl _))⟩
    ·rw [List.length_append,hm,Nat.add_sub_cancel' hge]
    ·rw [List.length_append,hm,Nat.add_sub_cancel' hge];exact hcm
    ·have:=heap_alloc_new w.drew (.cells ((Zr es).toArray ++ (Zr fs).toArray ++ Builtin.zeroCells (Value.agg #[.bool false,.slice none 0 0,.bool false,.slice none 0 0]).cells (grownCap w (es.length+m) (es.length+sp) e - (es.length+m))) e)
     unfold Blk;refine this.trans ?_
     congr 1
     have hx:(Zr es).toArray ++ (Zr fs).toArray ++ Builtin.zeroCells (Value.agg #[.bool false,.slice none 0 0,.bool false,.slice none 0 0]).cells (grownCap w (es.length+m) (es.length+sp) e - (es.length+m))=Zag (es ++ fs ++ List.replicate (grownCap w (es.length+m) (es.length+sp) e - (es.length+m)) Za0):=by
      apply Array.toList_inj.1
      rw [Array.toList_append,Array.toList_append,show (Value.agg #[.bool false,.slice none 0 0,.bool false,.slice none 0 0]).cells=#[.bool false,.slice none 0 0,.bool false,.slice none 0 0] from rfl,Zdg]
      simp [Zag,Zau]
     rw [hx]
theorem Zaf {o:Oper} {a:Act} {K:Act->World->Prop} {Q:Exit->Act->World->Prop} (s x:Operand) (t:TypeId)
    (ho:o.op=.call { callee:=.builtin .append,args:=#[s,x],argTypes:=#[t,t] })
    (base:Nat) (e:TypeId) (i:TypeInfo) (ht:P.underlying t=some (.slice e)) (hi:P.info? e=some i) (hz:i.zero=some (.agg #[.bool false,.slice none 0 0,.bool false,.slice none 0 0])) (hsi:i.size=4) (hby:i.bytes=64)
    (v:Value) (qs:List Rat) (hs:a.eval s=v) (hown:OwnF e w base v qs)
    (B:Nat) (A:Option Addr) (m c:Nat) (fs:List FE) (hx:a.eval x=.slice A m c) (hr:Reads w B 4 A m (Zr fs)) (hm:fs.length=m) (hfs:∀ e ∈ fs,e.in_ w)
    (h63:qs.length+m <= 1000) (hbase:base <= w.heap.size)
    (h:∀ v' w',OwnF e w' base v' (qs ++ fs.map FE.q)->w.grownBy w' v.ownBlock->(∀ (A:Option Addr) (n c:Nat) (l:List Nat),Lim w A n c l->Lim w' A n c l)->(v'.ownBlock=v.ownBlock \/ ∀ k,v'.ownBlock=some k->w.heap.size <= k)->K (a.put o.dst v') w'):o.wp P a w K Q:=by
 obtain ⟨es,h1,h2,rfl⟩:=hown;rw [List.length_map] at h63;obtain ⟨v',w',hrun,h3,h4,h5⟩:=Zip (P:=P) w base t o.type e i ht hi hz hsi hby v es h1 B A m c fs hr hm h63 hbase;unfold Oper.wp execOp;simp only [ho,resolve,invoke,builtin,Sem.run_bind,Sem.run_pure,Result.andThen_ok,List.map_toArray,List.map_cons,List.map_nil,hs,hx,hrun]
 have hk:∀ (A:Option Addr) (n c:Nat) (l:List Nat),Lim w A n c l->Lim w' A n c l:=fun _ _ _ _ hL=>h1.keep h4 hL
 refine h v' w' ⟨es ++ fs,h3,fun e he=>?_,by rw [List.map_append]⟩ h4 hk h5
 rcases List.mem_append.1 he with he | he
 ·exact (h2 e he).of_keep hk
 ·exact (hfs e he).of_keep hk
end
section
variable {tS tF:TypeId} {w w':World} {base go:Nat} {rs:List RS} {Q:List (List Rat)}
theorem OwnF.rsn {r:RS} {q:List Rat} (h:OwnF tF w base r.val q):r.n=q.length/\FL w r.A r.n r.c q:=by
 obtain ⟨A,c,e,hf⟩:=h.fl;simp only [RS.val,Value.slice.injEq] at e;obtain ⟨rfl,e2,rfl⟩:=e;refine ⟨e2,?_⟩;rw [e2];exact hf
end
def MatOA (tS tF:TypeId) (w:World) (base:Nat) (v:Value) (rs:List RS) (Q:List (List Rat)):Prop:=
 RowS tS w base v rs/\rs.length=Q.length/\(∀ (i:Nat) (r:RS),rs[i]?=some r->OwnF tF w base r.val (Q[i]?.getD [])) /\
  ∀ (i j:Nat) (r s:RS) (k:Nat),rs[i]?=some r->rs[j]?=some s->i ≠ j->r.val.ownBlock=some k->s.val.ownBlock ≠ some k
section
variable {tS tF:TypeId} {w w':World} {base:Nat} {v v':Value} {rs:List RS} {Q:List (List Rat)}
theorem MatOA.nil (tS tF:TypeId) (w:World) (base:Nat):MatOA tS tF w base (.slice none 0 0) [] []:=⟨.inl ⟨rfl,rfl⟩,rfl,fun i r hr=>(by cases hr),fun i j r s k hr=>(by cases hr)⟩
theorem MatOA.kept (h:MatOA tS tF w base v rs Q) (hb:Below w.heap.size w w'):MatOA tS tF w' base v rs Q:=⟨h.1.kept hb,h.2.1,fun i r hr=>(h.2.2.1 i r hr).kept hb,h.2.2.2⟩
theorem OwnF.grownT (hts:tS ≠ tF) {q:List Rat} {b:Nat} {u:Value} (h:OwnF tF w b u q) {rs:List RS} (hv:RowS tS w base v rs) (hg:w.grownBy w' v.ownBlock) (hk:∀ (A:Option Addr) (n c:Nat) (l:List Nat),Lim w A n c l->Lim w' A n c l):OwnF tF w' b u q:=by
 obtain ⟨es,e1,e2,e3⟩:=h;refine ⟨es,?_,fun e he=>⟨⟨(e2 e he).1.1,(e2 e he).1.2.1,hk _ _ _ _ (e2 e he).1.2.2⟩,⟨(e2 e he).2.1,(e2 e he).2.2.1,hk _ _ _ _ (e2 e he).2.2.2⟩⟩,e3⟩
 rcases e1 with e1 | ⟨g2,sp,e4,e5,e6,e7⟩
 ·exact .inl e1
 ·exact .inr ⟨g2,sp,e4,e5,e6,(hg.block g2 e7.lt (fun e=>hv.ownType e7 hts e.symm)).trans e7⟩
theorem OwnF.lower {b b':Nat} {u:Value} {q:List Rat} (h:OwnF tF w b u q) (hb:b' <= b):OwnF tF w b' u q:=by
 obtain ⟨es,e1,e2,e3⟩:=h;refine ⟨es,?_,e2,e3⟩
 rcases e1 with e1 | ⟨g2,sp,e4,e5,e6,e7⟩
 ·exact .inl e1
 ·exact .inr ⟨g2,sp,e4,Nat.le_trans hb e5,e6,e7⟩
theorem MatOA.snoc (h:MatOA tS tF w base v rs Q) (hts:tS ≠ tF) {r:RS} {q:List Rat} {b:Nat} (ho:OwnF tF w b r.val q) (hb:base <= b) (hlt:∀ s ∈ rs,∀ k,s.val.ownBlock=some k->k < b) (h1:RowS tS w' base v' (rs ++ [r])) (hg:w.grownBy w' v.ownBlock) (hk:∀ (A:Option Addr) (n c:Nat) (l:List Nat),Lim w A n c l->Lim w' A n c l) :
    MatOA tS tF w' base v' (rs ++ [r]) (Q ++ [q]):=by
 obtain ⟨a1,a2,a3,a4⟩:=h;refine ⟨h1,by simp [a2],fun i s hs=>?_,fun i j s t k hs ht hij hsk=>?_⟩
 ·by_cases hi:i < rs.length
  ·rw [List.getElem?_append_left hi] at hs
   rw [List.getElem?_append_left (by omega)];exact (a3 i s hs).grownT hts a1 hg hk
  ·have hl:=(List.getElem?_eq_some_iff.1 hs).1
   rw [List.length_append,List.length_singleton] at hl
   obtain rfl:i=rs.length:=by omega
   rw [List.getElem?_append_right (Nat.le_refl _),Nat.sub_self] at hs
   cases hs
   rw [List.getElem?_append_right (by omega),a2,Nat.sub_self];exact (ho.lower hb).grownT hts a1 hg hk
 ·have new:∀ (x:RS) (k:Nat),x ∈ rs->x.val.ownBlock=some k->r.val.ownBlock ≠ some k:=fun x k hx hxk e=>by
    have h2:=hlt x hx k hxk;obtain ⟨cs,-,-,h3⟩:=ho.ownBlk k e;omega
  have hli:=(List.getElem?_eq_some_iff.1 hs).1;have hlj:=(List.getElem?_eq_some_iff.1 ht).1;rw [List.length_append,List.length_singleton] at hli hlj
  by_cases hi:i < rs.length
  ·rw [List.getElem?_append_left hi] at hs
   by_cases hj:j < rs.length
   ·rw [List.getElem?_append_left hj] at ht
    exact a4 i j s t k hs ht hij hsk
   ·obtain rfl:j=rs.length:=by omega
    rw [List.getElem?_append_right (Nat.le_refl _),Nat.sub_self] at ht
    cases ht
    exact new s k (List.mem_of_getElem? hs) hsk
  ·obtain rfl:i=rs.length:=by omega
   rw [List.getElem?_append_right (Nat.le_refl _),Nat.sub_self] at hs
   cases hs
   rw [List.getElem?_append_left (by omega)] at ht
   exact fun e=>new t k (List.mem_of_getElem? ht) e hsk
end
theorem Zcp {P:Program} {ops:Array Oper} {Q:Exit->Act->World->Prop} {md:Region.Mode} {L:List Nat} {S:World->Prop} {i j:Nat} {oi oj:Oper} {fuel:Nat} {listed:Array Bool} {a:Act} {w:World} (hi:ops[i]?=some oi) (hj:ops[j]?=some oj) (hr:Region.ready md ops listed=[i,j])
    (h1:∀ K':Act->World->Prop,Shut (∀ a w,(Zc8 L (listed.setIfInBounds i true)=true->S w)->Zaj P md ops Q L S fuel (listed.setIfInBounds i true) a w->K' a w)->if Region.wanted oi (yielded ops a.tmps)=true then Oper.wp P oi a w K' Q else K' (a.put oi.dst undef) w)
    (h2:∀ K':Act->World->Prop,Shut (∀ a w,(Zc8 L (listed.setIfInBounds j true)=true->S w)->Zaj P md ops Q L S fuel (listed.setIfInBounds j true) a w->K' a w)->if Region.wanted oj (yielded ops a.tmps)=true then Oper.wp P oj a w K' Q else K' (a.put oj.dst undef) w) :
    Zaj P md ops Q L S (fuel+1) listed a w:=
 ⟨(fun h0=>by rw [h0] at hr;cases hr),fun k hk=>by
  rw [hr] at hk
  rcases List.mem_cons.1 hk with e | e
  ·subst e;exact wpOp_step hi (fun K' hK=>h1 K' (fun a w hS hW=>hK a w ⟨hS,hW⟩))
  ·rw [List.mem_singleton] at e;subst e;exact wpOp_step hj (fun K' hK=>h2 K' (fun a w hS hW=>hK a w ⟨hS,hW⟩))⟩
def FacM (tS tN:TypeId) (w:World) (base:Nat) (v1 v2:Value) (rs:List RS) (Q:List (List Rat)) (ds:List Rat):Prop:=
 MatOA tS tN w base v1 rs Q/\OwnF tN w base v2 ds/\∀ r ∈ rs,∀ k,r.val.ownBlock=some k->v2.ownBlock ≠ some k
section
variable {tS tN:TypeId} {w w':World} {base:Nat} {v v1 v1' v2 v2':Value} {rs:List RS} {Q:List (List Rat)} {ds qs:List Rat}
theorem OwnF.blt (h:OwnF tN w base v qs):∀ k,v.ownBlock=some k->k < w.heap.size:=fun k hk=>by
 obtain ⟨cs,hb,-,-⟩:=h.ownBlk k hk;exact hb.lt
theorem OwnF.grownO {b:Nat} (h:OwnF tN w b v qs) (hg:w.grownBy w' v2.ownBlock) (hne:∀ k,v.ownBlock=some k->v2.ownBlock ≠ some k) (hk:∀ (A:Option Addr) (n c:Nat) (l:List Nat),Lim w A n c l->Lim w' A n c l):OwnF tN w' b v qs:=by
 obtain ⟨es,e1,e2,e3⟩:=h;refine ⟨es,?_,fun e he=>(e2 e he).of_keep hk,e3⟩
 rcases e1 with e1 | ⟨g2,sp,e4,e5,e6,e7⟩
 ·exact .inl e1
 ·exact .inr ⟨g2,sp,e4,e5,e6,(hg.block g2 e7.lt (fun e=>hne g2 (by rw [e4];rfl) (by first | exact e | exact e.symm))).trans e7⟩
theorem RowS.grownR {rs:List RS} (h:RowS tS w base v1 rs) (hO:OwnF tN w base v2 ds) (hts:tS ≠ tN) (hg:w.grownBy w' v2.ownBlock):RowS tS w' base v1 rs:=by
 rcases h with h | ⟨g',sp,h1,h2,h3,h4⟩
 ·exact .inl h
 ·refine .inr ⟨g',sp,h1,h2,h3,(hg.block g' h4.lt (fun e=>?_)).trans h4⟩
  obtain ⟨cs,a,-,-⟩:=hO.ownBlk g' (by first | exact e | exact e.symm);exact hts (h4.type a)
theorem RowS.keptG {rs:List RS} (h:RowS tS w base v1 rs) {g:Nat} (hg:g < base) (hk:Kept (fun k=>k=g) w w'):RowS tS w' base v1 rs:=by
 rcases h with h | ⟨g',sp,h1,h2,h3,h4⟩
 ·exact .inl h
 ·exact .inr ⟨g',sp,h1,h2,h3,hk.blk h4 (by omega)⟩
theorem FacM.nil (tS tN:TypeId) (w:World) (base:Nat):FacM tS tN w base (.slice none 0 0) (.slice none 0 0) [] [] []:=⟨MatOA.nil _ _ _ _,OwnF.nil _ _ _,fun r hr=>(by cases hr)⟩
theorem FacM.kept (h:FacM tS tN w base v1 v2 rs Q ds) (hb:Below w.heap.size w w'):FacM tS tN w' base v1 v2 rs Q ds:=⟨h.1.kept hb,h.2.1.kept hb,h.2.2⟩
theorem FacM.rlt (h:FacM tS tN w base v1 v2 rs Q ds):∀ s ∈ rs,∀ k,s.val.ownBlock=some k->k < w.heap.size:=fun s hs k hk=>by
 obtain ⟨i,hi,e⟩:=List.getElem_of_mem hs;exact (h.1.2.2.1 i s (by rw [List.getElem?_eq_getElem hi,e])).blt k hk
theorem FacM.snocL (h:FacM tS tN w base v1 v2 rs Q ds) (hts:tS ≠ tN) {r:RS} {q:List Rat} {b:Nat} (ho:OwnF tN w b r.val q) (hb:base <= b) (hlt:∀ s ∈ rs,∀ k,s.val.ownBlock=some k->k < b) (hl2:∀ k,v2.ownBlock=some k->k < b) (h1:RowS tS w' base v1' (rs ++ [r])) (hg:w.grownBy w' v1.ownBlock) (hk:∀ (A:Option Addr) (n c:Nat) (l:List Nat),Lim w A n c l->Lim w' A n c l) :
    FacM tS tN w' base v1' v2 (rs ++ [r]) (Q ++ [q]) ds:=by
 refine ⟨h.1.snoc hts ho hb hlt h1 hg hk,h.2.1.grownT hts h.1.1 hg hk,fun s hs k hsk e=>?_⟩
 rcases List.mem_append.1 hs with hs | hs
 ·exact h.2.2 s hs k hsk e
 ·rw [List.mem_singleton] at hs
  subst hs;have h2:=ho.row_ge k hsk;have h3:=hl2 k e;omega
theorem FacM.snocD (h:FacM tS tN w base v1 v2 rs Q ds) (hts:tS ≠ tN) {qs:List Rat} (hO:OwnF tN w' base v2' qs) (hg:w.grownBy w' v2.ownBlock) (hk:∀ (A:Option Addr) (n c:Nat) (l:List Nat),Lim w A n c l->Lim w' A n c l)
    (hw:v2'.ownBlock=v2.ownBlock \/ ∀ k,v2'.ownBlock=some k->w.heap.size <= k):FacM tS tN w' base v1 v2' rs Q qs:=by
 refine ⟨⟨h.1.1.grownR h.2.1 hts hg,h.1.2.1,fun i r hr=>(h.1.2.2.1 i r hr).grownO hg (fun k hk=>h.2.2 r (List.mem_of_getElem? hr) k hk) hk,h.1.2.2.2⟩,hO,fun s hs k hsk e=>?_⟩
 rcases hw with hw | hw
 ·exact h.2.2 s hs k hsk (by rw [<- hw];exact e)
 ·have h2:=hw k e
  have h3:=h.rlt s hs k hsk;omega
theorem FacM.box (h:FacM tS tN w base v1 v2 rs Q ds) {g:Nat} {t:TypeId} {cs:Array Value} (hb:Blk w g t cs) (hn:NoLimb cs) (hg:g < base) (hk:Kept (fun k=>k=g) w w'):FacM tS tN w' base v1 v2 rs Q ds:=
 ⟨⟨h.1.1.keptG hg hk,h.1.2.1,fun i r hr=>(h.1.2.2.1 i r hr).keptG hb hn (fun e=>by have:=(h.1.2.2.1 i r hr).row_ge g e;omega) hk,h.1.2.2.2⟩,h.2.1.keptG hb hn (fun e=>by have:=h.2.1.row_ge g e;omega) hk,h.2.2⟩
theorem MatOA.mflA (h:MatOA tS tN w base v rs Q):∃ A c,v=.slice A Q.length c/\MFL w A Q.length c Q:=by
 obtain ⟨A,c,e,hM⟩:=h.1.mfl h.2.1 (fun i r hr=>(h.2.2.1 i r hr).rsn.2);rw [h.2.1] at e hM;exact ⟨A,c,e,hM⟩
end
theorem FL.pair2 {w:World} {g:Nat} {t:TypeId} {xn:Bool} {xA:Option Addr} {xk xc:Nat} {xm:Bool} {xB:Option Addr} {xj xd:Nat} {yn:Bool} {yA:Option Addr} {yk yc:Nat} {ym:Bool} {yB:Option Addr} {yj yd:Nat} {p q:Rat} (h:Blk w g t #[.bool xn,.slice xA xk xc,.bool xm,.slice xB xj xd,.bool yn,.slice yA yk yc,.bool ym,.slice yB yj yd]) (hp:Fr w xn xA xk xc xm xB xj xd p) (hq:Fr w yn yA yk yc ym yB yj yd q):FL w (some ⟨g,0,none⟩) 2 2 [p,q]:=by
 refine ⟨[⟨xn,xA,xk,xc,xm,xB,xj,xd,p⟩,⟨yn,yA,yk,yc,ym,yB,yj,yd,q⟩],rfl,Nat.le_refl _,by unfold maxLen;omega,fun e he=>?_,rfl,fun _=>⟨g,0,rfl,fun k r hr=>?_⟩⟩
 ·simp only [List.mem_cons,List.not_mem_nil,or_false] at he
  rcases he with rfl | rfl
  ·exact hp
  ·exact hq
 ·match k,hr with
  | 0,hr=>cases hr;exact ⟨h.cell 0,h.cell 1,h.cell 2,h.cell 3⟩
  | 1,hr=>cases hr;exact ⟨h.cell 4,h.cell 5,h.cell 6,h.cell 7⟩
  | k+2,hr=>simp at hr
theorem FL.sing1 {w:World} {g:Nat} {t:TypeId} {na:Bool} {A:Option Addr} {n c:Nat} {nb:Bool} {B:Option Addr} {m d:Nat} {q:Rat} (h:Blk w g t #[.bool na,.slice A n c,.bool nb,.slice B m d]) (hf:Fr w na A n c nb B m d q):FL w (some ⟨g,0,none⟩) 1 1 [q]:=by
 refine ⟨[⟨na,A,n,c,nb,B,m,d,q⟩],rfl,Nat.le_refl _,by unfold maxLen;omega,fun e he=>?_,rfl,fun _=>⟨g,0,rfl,fun k e hk=>?_⟩⟩
 ·rw [List.mem_singleton] at he;subst he;exact hf
 ·have hk0:k=0:=by have:=(List.getElem?_eq_some_iff.1 hk).1;simp at this;exact this
  subst hk0
  cases hk
  exact ⟨h.cell 0,h.cell 1,h.cell 2,h.cell 3⟩
theorem FL.atS {w:World} {g o n c:Nat} {qs:List Rat} (h:FL w (some ⟨g,o,none⟩) n c qs) {k:Nat} (hk:k < n):∃ na A1 n1 c1 nb B m d,At4 w g (o+k * 4) na A1 n1 c1 nb B m d/\Fr w na A1 n1 c1 nb B m d (qs[k]?.getD 0):=by
 obtain ⟨g',o',na,A1,n1,c1,nb,B,m,d,e,h1,h2⟩:=h.at_ hk
 cases e
 exact ⟨_,_,_,_,_,_,_,_,h1,h2⟩
theorem Zdc (A:Option Addr) (n c:Nat) (B:Option Addr) (m d:Nat):NoLimb #[.slice A n c,.slice B m d]:=fun i k=>by
 match i with
 | 0=>simp
 | 1=>simp
 | i+2=>simp
def EnvF (tS tN tX:TypeId) (w:World) (base bo gl gx:Nat) (v1 v2 V1 V2 own:Value) (rs:List RS) (Q:List (List Rat)) (ds q:List Rat) (ln:Bool) (lA:Option Addr) (lk lc:Nat) (lm:Bool) (lB:Option Addr) (lj ld:Nat) (d:Rat):Prop:=
 FacM tS tN w base v1 v2 rs Q ds/\OwnF tN w bo own q/\Blk w gl tN #[.bool ln,.slice lA lk lc,.bool lm,.slice lB lj ld]/\Fr w ln lA lk lc lm lB lj ld d/\Blk w gx tX #[V1,V2]
def EnvG (tS tN tX:TypeId) (w:World) (base gl gx:Nat) (v1 v2 V1 V2:Value) (rs:List RS) (Q:List (List Rat)) (ds:List Rat) (ln:Bool) (lA:Option Addr) (lk lc:Nat) (lm:Bool) (lB:Option Addr) (lj ld:Nat) (d:Rat):Prop:=
 FacM tS tN w base v1 v2 rs Q ds/\Blk w gl tN #[.bool ln,.slice lA lk lc,.bool lm,.slice lB lj ld]/\Fr w ln lA lk lc lm lB lj ld d/\Blk w gx tX #[V1,V2]
section
variable {tS tN tX:TypeId} {w w':World} {base bo gl gx:Nat} {v1 v1' v2 v2' V1 V2 own:Value} {rs:List RS} {Q:List (List Rat)} {ds q:List Rat} {ln:Bool} {lA:Option Addr} {lk lc:Nat} {lm:Bool} {lB:Option Addr} {lj ld:Nat} {d:Rat}
theorem EnvF.below (h:EnvF tS tN tX w base bo gl gx v1 v2 V1 V2 own rs Q ds q ln lA lk lc lm lB lj ld d) (hb:Below w.heap.size w w'):EnvF tS tN tX w' base bo gl gx v1 v2 V1 V2 own rs Q ds q ln lA lk lc lm lB lj ld d:=
 ⟨h.1.kept hb,h.2.1.kept hb,Zc hb h.2.2.1,h.2.2.2.1.below hb,Zc hb h.2.2.2.2⟩
theorem EnvG.below (h:EnvG tS tN tX w base gl gx v1 v2 V1 V2 rs Q ds ln lA lk lc lm lB lj ld d) (hb:Below w.heap.size w w'):EnvG tS tN tX w' base gl gx v1 v2 V1 V2 rs Q ds ln lA lk lc lm lB lj ld d:=
 ⟨h.1.kept hb,Zc hb h.2.1,h.2.2.1.below hb,Zc hb h.2.2.2⟩
theorem EnvF.cells (h:EnvF tS tN tX w base bo gl gx v1 v2 V1 V2 own rs Q ds q ln lA lk lc lm lB lj ld d):w.cell? ⟨gx,0,none⟩=some V1/\w.cell? ⟨gx,1,none⟩=some V2:=by
 have:=h.2.2.2.2;exact ⟨by rw [this.cell];rfl,by rw [this.cell];rfl⟩
theorem EnvG.cells (h:EnvG tS tN tX w base gl gx v1 v2 V1 V2 rs Q ds ln lA lk lc lm lB lj ld d):w.cell? ⟨gx,0,none⟩=some V1/\w.cell? ⟨gx,1,none⟩=some V2:=by
 have:=h.2.2.2;exact ⟨by rw [this.cell];rfl,by rw [this.cell];rfl⟩
theorem EnvF.left (h:EnvF tS tN tX w base bo gl gx v1 v2 V1 V2 own rs Q ds q ln lA lk lc lm lB lj ld d):w.cell? ⟨gl,0,none⟩=some (.bool ln)/\w.cell? ⟨gl,1,none⟩=some (.slice lA lk lc)/\w.cell? ⟨gl,2,none⟩=some (.bool lm)/\w.cell? ⟨gl,3,none⟩=some (.slice lB lj ld):=by
 obtain ⟨a,b,c,d,-⟩:=h.2.2.1.four;exact ⟨a,b,c,d⟩
theorem EnvG.left (h:EnvG tS tN tX w base gl gx v1 v2 V1 V2 rs Q ds ln lA lk lc lm lB lj ld d):w.cell? ⟨gl,0,none⟩=some (.bool ln)/\w.cell? ⟨gl,1,none⟩=some (.slice lA lk lc)/\w.cell? ⟨gl,2,none⟩=some (.bool lm)/\w.cell? ⟨gl,3,none⟩=some (.slice lB lj ld):=by
 obtain ⟨a,b,c,d,-⟩:=h.2.1.four;exact ⟨a,b,c,d⟩
theorem EnvF.far {t:TypeId} {g:Nat} {cs:Array Value} (h:EnvF tS tN tX w base bo gl gx v1 v2 V1 V2 own rs Q ds q ln lA lk lc lm lB lj ld d) (hts:tS ≠ t) (hg:w.grownBy w' v1.ownBlock) (hb:Blk w g t cs):Blk w' g t cs:=
 (hg.block g hb.lt (fun e=>h.1.1.1.ownType hb hts (by first | exact e | exact e.symm))).trans hb
theorem EnvF.app (h:EnvF tS tN tX w base bo gl gx v1 v2 V1 V2 own rs Q ds q ln lA lk lc lm lB lj ld d) (hts:tS ≠ tN) {r:RS} (hr:r.val=own) (hbb:base <= bo) (hlt:∀ s ∈ rs,∀ k,s.val.ownBlock=some k->k < bo) (hl2:∀ k,v2.ownBlock=some k->k < bo) (hgx:gx < base) (h1:RowS tS w' base v1' (rs ++ [r])) (hg:w.grownBy w' v1.ownBlock) (hk:∀ (A:Option Addr) (n c:Nat) (l:List Nat),Lim w A n c l->Lim w' A n c l) :
    EnvG tS tN tX w' base gl gx v1' v2 V1 V2 (rs ++ [r]) (Q ++ [q]) ds ln lA lk lc lm lB lj ld d:=by
 refine ⟨h.1.snocL hts (hr ▸ h.2.1) hbb hlt hl2 h1 hg hk,h.far hts hg h.2.2.1,⟨⟨h.2.2.2.1.1.1,h.2.2.2.1.1.2.1,hk _ _ _ _ h.2.2.2.1.1.2.2⟩,⟨h.2.2.2.1.2.1,h.2.2.2.1.2.2.1,hk _ _ _ _ h.2.2.2.1.2.2.2⟩⟩,?_⟩;exact (hg.block gx h.2.2.2.2.lt (fun e=>by have:=h.1.1.1.row_ge gx (by first | exact e | exact e.symm);omega)).trans h.2.2.2.2
theorem EnvG.app (h:EnvG tS tN tX w base gl gx v1 v2 V1 V2 rs Q ds ln lA lk lc lm lB lj ld d) (hts:tS ≠ tN) (hgx:gx < base) {qs:List Rat} (hO:OwnF tN w' base v2' qs) (hg:w.grownBy w' v2.ownBlock) (hk:∀ (A:Option Addr) (n c:Nat) (l:List Nat),Lim w A n c l->Lim w' A n c l)
    (hw:v2'.ownBlock=v2.ownBlock \/ ∀ k,v2'.ownBlock=some k->w.heap.size <= k):FacM tS tN w' base v1 v2' rs Q qs/\Blk w' gx tX #[V1,V2]:=
 ⟨h.1.snocD hts hO hg hk hw,(hg.block gx h.2.2.2.lt (fun e=>by have:=h.1.2.1.row_ge gx (by first | exact e | exact e.symm);omega)).trans h.2.2.2⟩
theorem Kept.grownC {G:Nat->Prop} {W0:World} {row:Option Nat} (h:Kept G W0 w) (hg:w.grownBy w' row) (hr:∀ k,row=some k->W0.heap.size <= k):Kept G W0 w':=
 ⟨hg.os.trans h.os,hg.tape.trans h.tape,hg.output.trans h.output,Nat.le_trans h.size hg.size,fun k hk hG=>(hg.block k (Nat.lt_of_lt_of_le hk h.size) (fun e=>by have:=hr k (by first | exact e | exact e.symm);omega)).trans (h.block k hk hG)⟩
end
end Go.Proofs.YtaioanjcjijckaaGreat
