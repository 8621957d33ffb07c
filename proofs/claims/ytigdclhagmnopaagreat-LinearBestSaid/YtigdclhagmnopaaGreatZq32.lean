/- What lies in memory while package linear's back reckons. -/
import Derived.Deep.LoopGhost
import Derived.Test.YtigdclhagmnopaaGreatZq22
import Derived.Test.YtigdclhagmnopaaGreatZq31
set_option maxRecDepth 100000
set_option maxHeartbeats 8000000
set_option linter.unusedSimpArgs false
set_option linter.unusedVariables false
namespace Go.Proofs.YtigdclhagmnopaaGreat
open Go.RowKit
attribute [local go_sem] Zh
section
variable {tS tF tW tR tI tX tB t:TypeId} {w w' W0:World} {g gn gX gO Bs go2 n c base i:Nat} {A:Option Addr} {L2:List RZ} {L:List RF} {cs:Array Value} {qs part:List Rat} {xs:List Int} {cur:RS} {row:Option Nat}
theorem Zp3 {neg:Bool} {A:Option Addr} {n c:Nat} {z:Int} (h:Wd w neg A n c z) (hg:w.grownBy w' row) (hr:∀ r,row=some r->∃ o:Obj,w.heap[r]?=some o/\o.isCells=false):Wd w' neg A n c z:=⟨h.1,h.2.1,Zgs h.2.2 hg hr⟩
theorem Zt8 (h:FOwn tF w g qs) (hg:w.grownBy w' row) (hr:∀ r,row=some r->∃ o:Obj,w.heap[r]?=some o/\o.isCells=false):FOwn tF w' g qs:=by
 obtain ⟨es,zs,h1,h2,h3⟩:=h;exact ⟨es,zs,Zcp h1 hg hr,fun e he=>⟨Zp3 (h2 e he).1 hg hr,Zp3 (h2 e he).2 hg hr⟩,h3⟩
theorem Zt3 (h:POwn tW w g xs) (hg:w.grownBy w' row) (hr:∀ r,row=some r->∃ o:Obj,w.heap[r]?=some o/\o.isCells=false):POwn tW w' g xs:=by
 obtain ⟨es,h1,h2,h3⟩:=h;exact ⟨es,Zcp h1 hg hr,fun e he=>⟨Zgs (h2 e he).1 hg hr,(h2 e he).2⟩,h3⟩
theorem Zu3 (h:MatZ tR tW w go2 L2) (hg:w.grownBy w' row) (hr:∀ r,row=some r->∃ o:Obj,w.heap[r]?=some o/\o.isCells=false):MatZ tR tW w' go2 L2:=by
 obtain ⟨⟨zs,h1⟩,h2,h3⟩:=h;exact ⟨⟨zs,Zcp h1 hg hr⟩,fun r hr'=>⟨Zt3 (h2 r hr').1 hg hr,(h2 r hr').2⟩,h3⟩
theorem Kept.others {G:Nat->Prop} (h:Kept G w w') (hG:∀ k,G k->∃ t cs,Blk w k t cs):KeepsOthers w w':=
 ⟨h.size,fun k o hk ho=>(h.block k (Array.getElem?_eq_some_iff.1 hk).1 (fun hg=>by
  obtain ⟨t,cs,hb⟩:=hG k hg;unfold Blk at hb;rw [hb] at hk
  cases hk
  exact absurd ho (by simp [Obj.isCells]))).trans hk⟩
def EnvK (tI tX tB tR tW:TypeId) (w:World) (gn gX gO Bs go2 n:Nat) (A:Option Addr) (c:Nat) (L2:List RZ):Prop:=
 Blk w gn tI #[.int .i64 n]/\Blk w gX tX #[.slice (some ⟨gO,0,none⟩) n n]/\Blk w Bs tB #[.slice A n c]/\MatZ tR tW w go2 L2
theorem EnvK.below (h:EnvK tI tX tB tR tW w gn gX gO Bs go2 n A c L2) (hb:Below w.heap.size w w'):EnvK tI tX tB tR tW w' gn gX gO Bs go2 n A c L2:=
 ⟨Zc hb h.1,Zc hb h.2.1,Zc hb h.2.2.1,h.2.2.2.below hb⟩
theorem EnvK.own (h:EnvK tI tX tB tR tW w gn gX gO Bs go2 n A c L2) (hg:w.grownBy w' row) (hr:∀ r,row=some r->∃ o:Obj,w.heap[r]?=some o/\o.isCells=false):EnvK tI tX tB tR tW w' gn gX gO Bs go2 n A c L2:=
 ⟨Zcp h.1 hg hr,Zcp h.2.1 hg hr,Zcp h.2.2.1 hg hr,Zu3 h.2.2.2 hg hr⟩
def NoT (tI tX tB tR tW t:TypeId):Prop:=tI ≠ t/\tX ≠ t/\tB ≠ t/\tR ≠ t/\tW ≠ t
theorem EnvK.ne (h:EnvK tI tX tB tR tW w gn gX gO Bs go2 n A c L2) (ht:NoT tI tX tB tR tW t) (hb:Blk w g t cs):gn ≠ g/\gX ≠ g/\Bs ≠ g/\go2 ≠ g/\∀ r ∈ L2,r.g ≠ g:=by
 obtain ⟨h1,h2,h3,⟨zs,h4⟩,h5,-⟩:=h;refine ⟨fun e=>ht.1 ?_,fun e=>ht.2.1 ?_,fun e=>ht.2.2.1 ?_,fun e=>ht.2.2.2.1 ?_,fun r hr e=>ht.2.2.2.2 ?_⟩
 ·subst e;exact h1.type hb
 ·subst e;exact h2.type hb
 ·subst e;exact h3.type hb
 ·subst e;exact h4.type hb
 ·obtain ⟨es,h6,-,-⟩:=(h5 r hr).1
  rw [e] at h6;exact h6.type hb
theorem EnvK.keptG (h:EnvK tI tX tB tR tW w gn gX gO Bs go2 n A c L2) (ht:NoT tI tX tB tR tW t) (hb:Blk w g t cs) (hn:NoLimb cs) (hk:Kept (fun k=>k=g) w w'):EnvK tI tX tB tR tW w' gn gX gO Bs go2 n A c L2:=by
 obtain ⟨e1,e2,e3,e4,e5⟩:=h.ne ht hb;obtain ⟨h1,h2,h3,h4⟩:=h;exact ⟨hk.blk h1 e1,hk.blk h2 e2,hk.blk h3 e3,h4.keptG hk e4 e5 (fun k hk=>⟨t,cs,hk ▸ hb,hn⟩)⟩
theorem EnvK.grownT (h:EnvK tI tX tB tR tW w gn gX gO Bs go2 n A c L2) (ht:NoT tI tX tB tR tW t) (hg:w.grownBy w' row) (hr:∀ k,row=some k->∃ cs,Blk w k t cs/\NoLimb cs):EnvK tI tX tB tR tW w' gn gX gO Bs go2 n A c L2:=by
 cases row with
 | none=>exact h.below ⟨hg.os,hg.tape,hg.output,hg.size,fun k hk=>hg.block k hk (by simp)⟩
 | some k =>
  obtain ⟨cs,hb,hn⟩:=hr k rfl;exact h.keptG ht hb hn ⟨hg.os,hg.tape,hg.output,hg.size,fun j hj hne=>hg.block j hj (by simpa using hne)⟩
theorem EnvK.sl (h:EnvK tI tX tB tR tW w gn gX gO Bs go2 n (some ⟨go2,0,none⟩) c L2) (hl:L2.length=n) (hc:n <= c) (hm:c <= maxLen):SL w (some ⟨go2,0,none⟩) n c (L2.map RZ.rs):=by
 refine ⟨by rw [List.length_map,hl],hc,hm,fun _=>⟨go2,0,rfl,fun k e he=>?_⟩⟩;rw [List.getElem?_map] at he;obtain ⟨r,hr,rfl⟩:=Option.map_eq_some_iff.1 he;rw [Nat.zero_add];exact (h.2.2.2.cell hr).1
def OutK (tS tF:TypeId) (w:World) (base gO i:Nat) (L:List RF):Prop:=
 Blk w gO tS (Z7 (List.replicate i Zay ++ L.map RF.rs))/\(∀ r ∈ L,(FOwn tF w r.g r.q/\r.q.length <= r.c/\r.c <= maxLen)/\base <= r.g)/\(L.map RF.g).Nodup
theorem OutK.own (h:OutK tS tF w base gO i L) (hg:w.grownBy w' row) (hr:∀ r,row=some r->∃ o:Obj,w.heap[r]?=some o/\o.isCells=false):OutK tS tF w' base gO i L:=
 ⟨Zcp h.1 hg hr,fun r hr'=>⟨⟨Zt8 (h.2.1 r hr').1.1 hg hr,(h.2.1 r hr').1.2⟩,(h.2.1 r hr').2⟩,h.2.2⟩
def BunK (tI tX tB tR tW tS tF:TypeId) (gn gX gO Bs go2 n:Nat) (A:Option Addr) (c:Nat) (L2:List RZ) (W0:World) (i:Nat) (cur:RS) (part:List Rat) (L:List RF) (w:World):Prop:=
 EnvK tI tX tB tR tW w gn gX gO Bs go2 n A c L2/\Blk w gO tS (Z7 (List.replicate i Zay ++ cur :: L.map RF.rs))/\OwnF tF w W0.heap.size cur.val part/\(∀ r ∈ L,FOwn tF w r.g r.q)/\Kept (fun k=>k=gO) W0 w
theorem BunK.below (h:BunK tI tX tB tR tW tS tF gn gX gO Bs go2 n A c L2 W0 i cur part L w) (hb:Below w.heap.size w w'):BunK tI tX tB tR tW tS tF gn gX gO Bs go2 n A c L2 W0 i cur part L w':=
 ⟨h.1.below hb,Zc hb h.2.1,h.2.2.1.kept hb,fun r hr=>(h.2.2.2.1 r hr).below hb,h.2.2.2.2.below hb⟩
theorem OwnF.ownBlk {v:Value} (h:OwnF tF w base v part):∀ k,v.ownBlock=some k->∃ cs,Blk w k tF cs/\NoLimb cs/\base <= k:=fun k hk=>by
 obtain ⟨es,h1,h2,h3⟩:=h
 rcases h1 with ⟨rfl,_⟩ | ⟨g',sp,rfl,h4,h5,h6⟩
 ·cases hk
 ·have:g'=k:=by simpa [Value.ownBlock] using hk
  subst this;exact ⟨_,h6,Zdu _,h4⟩
theorem OwnF.keptG {v:Value} (h:OwnF tF w base v part) {g':Nat} {t':TypeId} (hb:Blk w g' t' cs) (hn:NoLimb cs) (hne:v.ownBlock ≠ some g') (hk:Kept (fun k=>k=g') w w'):OwnF tF w' base v part:=by
 have hG:∀ k,k=g'->∃ t cs,Blk w k t cs/\NoLimb cs:=fun k hk=>⟨t',cs,hk ▸ hb,hn⟩
 obtain ⟨es,h1,h2,h3⟩:=h;refine ⟨es,?_,fun e he=>⟨hk.wd (h2 e he).1 hG,hk.wd (h2 e he).2 hG⟩,h3⟩
 rcases h1 with h | ⟨g2,sp,rfl,h4,h5,h6⟩
 ·exact .inl h
 ·exact .inr ⟨g2,sp,rfl,h4,h5,hk.blk h6 (fun e=>hne (by rw [<- e];rfl))⟩
theorem BunK.turn (h:BunK tI tX tB tR tW tS tF gn gX gO Bs go2 n A c L2 W0 i cur part L w) (ht:NoT tI tX tB tR tW tF) (hts:tS ≠ tF) {gs:Nat} (hb:Blk w gs tF cs) (hn:NoLimb cs) (hL:∀ r ∈ L,r.g ≠ gs) (hc:cur.val.ownBlock ≠ some gs) (hg:W0.heap.size <= gs) (hk:Kept (fun k=>k=gs) w w') :
    BunK tI tX tB tR tW tS tF gn gX gO Bs go2 n A c L2 W0 i cur part L w':=by
 obtain ⟨h1,h2,h3,h4,h5⟩:=h
 have hG:∀ k,k=gs->∃ t cs,Blk w k t cs/\NoLimb cs:=fun k hk=>⟨tF,cs,hk ▸ hb,hn⟩
 exact ⟨h1.keptG ht hb hn hk,hk.blk h2 (fun e=>hts (by subst e;exact h2.type hb)),h3.keptG hb hn hc hk,fun r hr=>(h4 r hr).keptG hk (hL r hr) hG,h5.and hk (fun k h1 h2=>by omega)⟩
theorem BunK.app (h:BunK tI tX tB tR tW tS tF gn gX gO Bs go2 n A c L2 W0 i cur part L w) (ht:NoT tI tX tB tR tW tF) (htS:NoT tI tX tB tR tW tS) (hts:tS ≠ tF) (hL0:∀ r ∈ L,r.g < W0.heap.size) {cur':RS} {part':List Rat}
    (hg:w.grownBy w' cur.val.ownBlock) (ho:OwnF tF w' W0.heap.size cur'.val part') (hk:∀ (A:Option Addr) (n c:Nat) (l:List Nat),Lim w A n c l->Lim w' A n c l) :
    BunK tI tX tB tR tW tS tF gn gX gO Bs go2 n A c L2 W0 i cur' part' L (w'.setCell ⟨gO,i,none⟩ cur'.val):=by
 obtain ⟨h1,h2,h3,h4,h5⟩:=h;have hob:=h3.ownBlk;have e1:=h1.grownT ht hg (fun k hk=>by obtain ⟨cs,a,b,-⟩:=hob k hk;exact ⟨cs,a,b⟩)
 have hneO:cur.val.ownBlock ≠ some gO:=fun e=>by
  obtain ⟨cs,a,-,-⟩:=hob gO e;exact hts (h2.type a)
 have b2:Blk w' gO tS (Z7 (List.replicate i Zay ++ cur :: L.map RF.rs)):=(hg.block gO h2.lt (fun e=>hneO e.symm)).trans h2
 have f4:∀ r ∈ L,FOwn tF w' r.g r.q:=fun r hr=>(h4 r hr).grown hg (fun e=>by
  have:=(hob _ e).choose_spec.2.2;have:=hL0 r hr
  omega) hk
 have k5:Kept (fun k=>k=gO) W0 w':=h5.grownG hg (fun k hk=>(hob k hk).choose_spec.2.2);have hnl:=Zbb (List.replicate i Zay ++ cur :: L.map RF.rs);have kS:Kept (fun k=>k=gO) w' (w'.setCell ⟨gO,i,none⟩ cur'.val):=Kept.set_ (G:=fun k=>k=gO) (Kept.refl _ _) (p:=⟨gO,i,none⟩) (.inl rfl) _
 have hG:∀ k,k=gO->∃ t cs,Blk w' k t cs/\NoLimb cs:=fun k hk=>⟨tS,_,hk ▸ b2,hnl⟩
 refine ⟨e1.keptG htS b2 hnl kS,?_,ho.keptG b2 hnl (fun e=>?_) kS,fun r hr=>(f4 r hr).keptG kS (fun e=>?_) hG,k5.trans kS⟩
 ·have:=b2.set_ i cur'.val
  rw [show cur'.val=.slice cur'.A cur'.n cur'.c from rfl,Zdb cur'] at this;rw [List.set_append_right _ _ (by simp),List.length_replicate,Nat.sub_self,List.set_cons_zero] at this;exact this
 ·obtain ⟨cs,a,-,-⟩:=ho.ownBlk gO e
  exact hts (b2.type a)
 ·obtain ⟨es,zs,a,-,-⟩:=f4 r hr
  rw [e] at a;exact hts (b2.type a)
theorem BunK.out (h:BunK tI tX tB tR tW tS tF gn gX gO Bs go2 n A c L2 W0 i cur part L w) (hp:part ≠ []) (hO:OutK tS tF W0 base gO (i+1) L) (hb:base <= W0.heap.size):∃ r:RF,r.q=part/\OutK tS tF w base gO i (r :: L):=by
 obtain ⟨h1,h2,h3,h4,h5⟩:=h
 rcases h3.fown with ⟨e,e2⟩ | ⟨g,cc,e,hg,hc1,hc2,hF⟩
 ·exact absurd e2 hp
 ·have hcur:cur=⟨some ⟨g,0,none⟩,part.length,cc⟩:=by
    obtain ⟨a,b,d⟩:=cur;simp only [RS.val,Value.slice.injEq] at e;obtain ⟨rfl,rfl,rfl⟩:=e;rfl
  subst hcur;refine ⟨⟨g,cc,part⟩,rfl,h2,fun r hr=>?_,?_⟩
  ·rcases List.mem_cons.1 hr with rfl | hr
   ·exact ⟨⟨hF,hc1,hc2⟩,Nat.le_trans hb hg⟩
   ·exact ⟨⟨h4 r hr,(hO.2.1 r hr).1.2⟩,(hO.2.1 r hr).2⟩
  ·rw [List.map_cons,List.nodup_cons]
   refine ⟨fun hm=>?_,hO.2.2⟩;obtain ⟨r,hr,e⟩:=List.mem_map.1 hm;have h1:=(hO.2.1 r hr).1.1.lt;have h2:g=r.g:=e.symm;omega
end
section
variable {P:Program} (w:World)
theorem Zj7 (base:Nat) (t ty e:TypeId) (i:TypeInfo) (ht:P.underlying t=some (.slice e)) (hi:P.info? e=some i) (hz:i.zero=some (.agg #[.bool false,.slice none 0 0,.bool false,.slice none 0 0]))
    (hs:i.size=4) (hby:i.bytes=64) (v:Value) (es:List FE) (hown:RowF e w base v es)
    (B:Nat) (A:Option Addr) (m c:Nat) (fs:List FE) (hr:Reads w B 4 A m (Zq fs)) (hm:fs.length=m) (h63:es.length+m <= 1000) (hbase:base <= w.heap.size) :
    ∃ v' w',(Builtin.append_ #[t,t] ty #[v,.slice A m c]).run P w=.ok v' w'/\RowF e w' base v' (es ++ fs)/\w.grownBy w' v.ownBlock/\(v'.ownBlock=v.ownBlock \/ ∀ k,v'.ownBlock=some k->w.heap.size <= k):=by
 rcases Nat.eq_zero_or_pos m with h0 | h0
 ·subst h0
  obtain rfl:fs=[]:=List.eq_nil_of_length_eq_zero hm;rw [List.append_nil]
  rcases A with _ | ad
  ·exact ⟨v,w,Zb6 w base t ty e i 4 ht hi v _ _ hown.own c,hown,World.grownBy.refl w _,.inl rfl⟩
  ·have hf:=run_firstCells_some (P:=P) w i.size 0 ad 0 c [] (by simp) (by simp)
   rcases hown with ⟨rfl,rfl⟩ | ⟨g,sp,rfl,h2,h3,h4⟩
   ·refine ⟨.slice none 0 0,w,?_,.inl ⟨rfl,rfl⟩,World.grownBy.refl w _,.inl rfl⟩
    simp [Builtin.append_,run_underlying ht,sizeOf,typeInfo,hi,Builtin.lenOf,Builtin.firstCells,loadCells,loadCellsFrom]
   ·refine ⟨_,w,?_,.inr ⟨g,sp,rfl,h2,h3,h4⟩,World.grownBy.refl w _,.inl rfl⟩
    simp [Builtin.append_,run_underlying ht,sizeOf,typeInfo,hi,Builtin.lenOf,Builtin.firstCells,loadCells,loadCellsFrom,storeCells]
 ·obtain ⟨ad,rfl,_,hc⟩:=hr.2 h0
  have hl:(Zq fs).length=m * i.size:=by rw [Zw,hm,hs]
  have hle:es.length * i.size=(Zq es).length:=by rw [Zw,hs]
  rcases hown with ⟨rfl,rfl⟩ | ⟨g,sp,rfl,h2,h3,h4⟩
  ·have hrun:=run_append_nil (P:=P) w t ty e i _ ht hi hz ad m c (Zq fs) hl hc h0 (by omega) (by rw [hby];omega)
   have hge:=grownCap_ge w m 0 e;have hcm:=grownCap_le_maxLen w m 0 e (by unfold maxLen;simp only [List.length_nil] at h63;omega);refine ⟨_,_,hrun,.inr ⟨w.heap.size,grownCap w m 0 e - m,?_,hbase,?_,?_⟩,⟨rfl,rfl,rfl,by simp,fun k hk _=>Below.heap_alloc w.drew _ k hk⟩,.inr (fun k hk=>by first | (simp [Value.ownBlock] at hk;omega) | (cases hk;exact Nat.le_refl _))⟩
   ·rw [List.nil_append,hm,Nat.add_sub_cancel' hge]
   ·rw [List.nil_append,hm,Nat.add_sub_cancel' hge];exact hcm
   ·have:=heap_alloc_new w.drew (.cells ((Zq fs).toArray ++ Builtin.zeroCells (Value.agg #[.bool false,.slice none 0 0,.bool false,.slice none 0 0]).cells (grownCap w m 0 e - m)) e)
    unfold Blk;refine this.trans ?_
    congr 1
    have hx:(Zq fs).toArray ++ Builtin.zeroCells (Value.agg #[.bool false,.slice none 0 0,.bool false,.slice none 0 0]).cells (grownCap w m 0 e - m)=Z8 ([] ++ fs ++ List.replicate (grownCap w m 0 e - m) Zax):=by
     apply Array.toList_inj.1
     rw [Array.toList_append,show (Value.agg #[.bool false,.slice none 0 0,.bool false,.slice none 0 0]).cells=#[.bool false,.slice none 0 0,.bool false,.slice none 0 0] from rfl,Zcf]
     simp [Z8,Zam]
    rw [hx]
  ·by_cases hroom:m <= sp
   ·have hrun:=run_append_room (P:=P) w t ty e i ht hi g es.length (es.length+sp) _ h4 ad m c (Zq fs) hl hc (Zin fs) (by omega) (by rw [hle,Zw,Zw];simp [Z8,Zw];omega)
    refine ⟨_,_,hrun,.inr ⟨g,sp - m,?_,h2,?_,?_⟩,⟨rfl,rfl,rfl,by simp [World.setRow],fun k _ hk=>setRow_other w g k _ (fun e'=>hk (by simp [Value.ownBlock,e']))⟩,.inl rfl⟩
    ·rw [List.length_append,hm,show es.length+m+(sp - m)=es.length+sp by omega]
    ·rw [List.length_append,hm];omega
    ·refine (setRow_heap w g _ _ e _ h4).trans ?_
     congr 2
     unfold Z8
     congr 1
     rw [hle]
     have hrep:List.replicate sp Zax=List.replicate m Zax ++ List.replicate (sp - m) Zax:=by rw [List.replicate_append_replicate];congr 1;omega
     have hlm:(Zq fs).length=(Zq (List.replicate m Zax)).length:=by rw [Zw,Zw,hm,List.length_replicate]
     simp only [Zam];rw [List.take_left,hlm,<- List.length_append,hrep,Zam,<- List.append_assoc (Zq es),List.drop_left,List.append_assoc]
   ·have holds:∀ j u,(Zq es)[j]?=some u->w.cell? ((⟨g,0,none⟩:Addr).add j)=some u:=fun j u hu=>by
      rw [Zh,Nat.zero_add,h4.cell];simp only [Z8,List.getElem?_toArray,Zam];rw [List.getElem?_append_left (by rw [List.getElem?_eq_some_iff] at hu;exact hu.1)];exact hu
    have hrun:=run_append_grow (P:=P) w t ty e i _ ht hi hz ⟨g,0,none⟩ es.length (es.length+sp) (Zq es) hle.symm holds ad m c (Zq fs) hl hc (by omega) (by omega) (growslice_fits (by omega) (by rw [hby];omega));have hge:=grownCap_ge w (es.length+m) (es.length+sp) e;have hcm:=grownCap_le_maxLen w (es.length+m) (es.length+sp) e (by unfold maxLen;omega);refine ⟨_,_,hrun,.inr ⟨w.heap.size,grownCap w (es.length+m) (es.length+sp) e - (es.length+m),?_,hbase,?_,?_⟩,⟨rfl,rfl,rfl,by simp,fun k hk _=>Below.heap_alloc w.drew _ k hk⟩,.inr (fun k hk=>by first | (simp [Value.ownBlock] at hk;omega) | (cases hk;exact Nat.le_refl _))⟩
    ·rw [List.length_append,hm,Nat.add_sub_cancel' hge]
    ·rw [List.length_append,hm,Nat.add_sub_cancel' hge];exact hcm
    ·have:=heap_alloc_new w.drew (.cells ((Zq es).toArray ++ (Zq fs).toArray ++ Builtin.zeroCells (Value.agg #[.bool false,.slice none 0 0,.bool false,.slice none 0 0]).cells (grownCap w (es.length+m) (es.length+sp) e - (es.length+m))) e)
     unfold Blk;refine this.trans ?_
     congr 1
     have hx:(Zq es).toArray ++ (Zq fs).toArray ++ Builtin.zeroCells (Value.agg #[.bool false,.slice none 0 0,.bool false,.slice none 0 0]).cells (grownCap w (es.length+m) (es.length+sp) e - (es.length+m))=Z8 (es ++ fs ++ List.replicate (grownCap w (es.length+m) (es.length+sp) e - (es.length+m)) Zax):=by
      apply Array.toList_inj.1
      rw [Array.toList_append,Array.toList_append,show (Value.agg #[.bool false,.slice none 0 0,.bool false,.slice none 0 0]).cells=#[.bool false,.slice none 0 0,.bool false,.slice none 0 0] from rfl,Zcf]
      simp [Z8,Zam]
     rw [hx]
theorem Zgm {o:Oper} {a:Act} {K:Act->World->Prop} {Q:Exit->Act->World->Prop} (s x:Operand) (t:TypeId)
    (ho:o.op=.call { callee:=.builtin .append,args:=#[s,x],argTypes:=#[t,t] })
    (base:Nat) (e:TypeId) (i:TypeInfo) (ht:P.underlying t=some (.slice e)) (hi:P.info? e=some i) (hz:i.zero=some (.agg #[.bool false,.slice none 0 0,.bool false,.slice none 0 0])) (hsi:i.size=4) (hby:i.bytes=64)
    (v:Value) (qs:List Rat) (hs:a.eval s=v) (hown:OwnF e w base v qs)
    (B:Nat) (A:Option Addr) (m c:Nat) (fs:List FE) (hx:a.eval x=.slice A m c) (hr:Reads w B 4 A m (Zq fs)) (hm:fs.length=m) (hfs:∀ e ∈ fs,e.in_ w)
    (h63:qs.length+m <= 1000) (hbase:base <= w.heap.size)
    (h:∀ v' w',OwnF e w' base v' (qs ++ fs.map FE.q)->w.grownBy w' v.ownBlock->(∀ (A:Option Addr) (n c:Nat) (l:List Nat),Lim w A n c l->Lim w' A n c l)->(v'.ownBlock=v.ownBlock \/ ∀ k,v'.ownBlock=some k->w.heap.size <= k)->K (a.put o.dst v') w'):o.wp P a w K Q:=by
 obtain ⟨es,h1,h2,rfl⟩:=hown;rw [List.length_map] at h63;obtain ⟨v',w',hrun,h3,h4,h5⟩:=Zj7 (P:=P) w base t o.type e i ht hi hz hsi hby v es h1 B A m c fs hr hm h63 hbase;unfold Oper.wp execOp;simp only [ho,resolve,invoke,builtin,Sem.run_bind,Sem.run_pure,Result.andThen_ok,List.map_toArray,List.map_cons,List.map_nil,hs,hx,hrun]
 have hk:∀ (A:Option Addr) (n c:Nat) (l:List Nat),Lim w A n c l->Lim w' A n c l:=fun _ _ _ _ hL=>h1.keep h4 hL
 refine h v' w' ⟨es ++ fs,h3,fun e he=>?_,by rw [List.map_append]⟩ h4 hk h5
 rcases List.mem_append.1 he with he | he
 ·exact (h2 e he).of_keep hk
 ·exact (hfs e he).of_keep hk
end
def MatA (tS tF:TypeId) (w:World) (base go:Nat) (rs:List RS) (Q:List (List Rat)):Prop:=
 (∃ zs,Blk w go tS (Z7 (rs ++ zs)))/\base <= go/\rs.length=Q.length/\(∀ (i:Nat) (r:RS),rs[i]?=some r->OwnF tF w base r.val (Q[i]?.getD [])) /\
  ∀ (i j:Nat) (r s:RS) (k:Nat),rs[i]?=some r->rs[j]?=some s->i ≠ j->r.val.ownBlock=some k->s.val.ownBlock ≠ some k
section
variable {tS tF:TypeId} {w w':World} {base go:Nat} {rs:List RS} {Q:List (List Rat)}
theorem MatA.below (h:MatA tS tF w base go rs Q) (hb:Below w.heap.size w w'):MatA tS tF w' base go rs Q:=by
 obtain ⟨⟨zs,h1⟩,h2,h3,h4,h5⟩:=h;exact ⟨⟨zs,Zc hb h1⟩,h2,h3,fun i r hr=>(h4 i r hr).kept hb,h5⟩
theorem MatA.cell (h:MatA tS tF w base go rs Q) {i:Nat} {r:RS} (hr:rs[i]?=some r):w.cell? ⟨go,i,none⟩=some (.slice r.A r.n r.c)/\w.frozen? ⟨go,i,none⟩=false:=by
 obtain ⟨⟨zs,h1⟩,-⟩:=h;refine ⟨?_,h1.frozen i⟩;rw [h1.cell];exact Zbw (by rw [List.getElem?_append_left (List.getElem?_eq_some_iff.1 hr).1];exact hr)
theorem OwnF.rsn {r:RS} {q:List Rat} (h:OwnF tF w base r.val q):r.n=q.length/\FL w r.A r.n r.c q:=by
 obtain ⟨A,c,e,hf⟩:=h.fl;simp only [RS.val,Value.slice.injEq] at e;obtain ⟨rfl,e2,rfl⟩:=e;refine ⟨e2,?_⟩;rw [e2];exact hf
theorem MatA.mfl (h:MatA tS tF w base go rs Q) {c:Nat} (hc:rs.length <= c) (hm:c <= maxLen):MFL w (some ⟨go,0,none⟩) rs.length c Q:=by
 refine ⟨h.2.2.1.symm,hc,hm,fun _=>⟨go,0,rfl,fun k q hq=>?_⟩⟩
 have hk:k < rs.length:=by rw [h.2.2.1];exact (List.getElem?_eq_some_iff.1 hq).1
 have hr:=List.getElem?_eq_getElem hk;have h1:=(h.cell hr).1;have h2:=(h.2.2.2.1 k _ hr).rsn.2;rw [hq] at h2;exact ⟨_,_,_,by rw [Nat.zero_add];exact h1,h2⟩
theorem MatA.app (h:MatA tS tF w base go rs Q) (hts:tS ≠ tF) {i:Nat} {r r':RS} {q':List Rat} (hr:rs[i]?=some r) (hg:w.grownBy w' r.val.ownBlock) (ho:OwnF tF w' base r'.val q') (hk:∀ (A:Option Addr) (n c:Nat) (l:List Nat),Lim w A n c l->Lim w' A n c l)
    (hw:r'.val.ownBlock=r.val.ownBlock \/ ∀ k,r'.val.ownBlock=some k->w.heap.size <= k):MatA tS tF (w'.setCell ⟨go,i,none⟩ r'.val) base go (rs.set i r') (Q.set i q'):=by
 obtain ⟨⟨zs,h1⟩,h2,h3,h4,h5⟩:=h;have hi:i < rs.length:=(List.getElem?_eq_some_iff.1 hr).1
 have hnO:∀ (v:Value) (q:List Rat),OwnF tF w base v q->v.ownBlock ≠ some go:=fun v q hv e=>by
  obtain ⟨cs,a,-,-⟩:=hv.ownBlk go e;exact hts (h1.type a)
 have b1:Blk w' go tS (Z7 (rs ++ zs)):=(hg.block go h1.lt (fun e=>hnO _ _ (h4 i r hr) e.symm)).trans h1;have hnl:=Zbb (rs ++ zs);have kS:Kept (fun k=>k=go) w' (w'.setCell ⟨go,i,none⟩ r'.val):=Kept.set_ (G:=fun k=>k=go) (Kept.refl _ _) (p:=⟨go,i,none⟩) (.inl rfl) _
 have hoO:r'.val.ownBlock ≠ some go:=fun e=>by
  obtain ⟨cs,a,-,-⟩:=ho.ownBlk go e;exact hts (b1.type a)
 refine ⟨⟨zs,?_⟩,h2,by rw [List.length_set,List.length_set];exact h3,fun j s hs=>?_,fun j l s t k hs ht hjl hsk=>?_⟩
 ·have:=b1.set_ i r'.val
  rw [show r'.val=.slice r'.A r'.n r'.c from rfl,Zdb r'] at this;rw [List.set_append_left _ _ hi] at this;exact this
 ·rw [List.getElem?_set] at hs
  by_cases hij:i=j
  ·subst hij
   rw [if_pos rfl,if_pos hi] at hs
   cases hs
   rw [List.getElem?_set_self (by omega),Option.getD_some];exact ho.keptG b1 hnl hoO kS
  ·rw [if_neg hij] at hs
   rw [List.getElem?_set_ne hij];have o:=h4 j s hs
   have ne:∀ k,s.val.ownBlock=some k->r.val.ownBlock ≠ some k:=fun k e=>h5 j i s r k hs hr (Ne.symm hij) e
   have o2:OwnF tF w' base s.val (Q[j]?.getD []):=by
    obtain ⟨es,e1,e2,e3⟩:=o;refine ⟨es,?_,fun e he=>⟨⟨(e2 e he).1.1,(e2 e he).1.2.1,hk _ _ _ _ (e2 e he).1.2.2⟩,⟨(e2 e he).2.1,(e2 e he).2.2.1,hk _ _ _ _ (e2 e he).2.2.2⟩⟩,e3⟩
    rcases e1 with e1 | ⟨g2,sp,e4,e5,e6,e7⟩
    ·exact .inl e1
    ·exact .inr ⟨g2,sp,e4,e5,e6,(hg.block g2 e7.lt (fun e=>ne g2 (by rw [e4];rfl) e.symm)).trans e7⟩
   exact o2.keptG b1 hnl (hnO _ _ o) kS
 ·have fresh:∀ (j:Nat) (s:RS) (k:Nat),j ≠ i->rs[j]?=some s->s.val.ownBlock=some k->r'.val.ownBlock ≠ some k:=fun j s k hji hs hsk e=>by
    obtain ⟨cs,a,-,-⟩:=(h4 j s hs).ownBlk k hsk;have:=a.lt
    rcases hw with hw | hw
    ·exact h5 j i s r k hs hr hji hsk (by rw [<- hw];exact e)
    ·have:=hw k e;omega
  rw [List.getElem?_set] at hs ht
  by_cases h6:i=j
  ·subst h6
   rw [if_pos rfl,if_pos hi] at hs;rw [if_neg hjl] at ht
   cases hs
   intro e;exact fresh l t k (Ne.symm hjl) ht e hsk
  ·rw [if_neg h6] at hs
   by_cases h7:i=l
   ·subst h7
    rw [if_pos rfl,if_pos hi] at ht
    cases ht
    exact fresh j s k (Ne.symm h6) hs hsk
   ·rw [if_neg h7] at ht
    exact h5 j l s t k hs ht hjl hsk
end
section
variable {tS tF:TypeId} {w w':World} {base:Nat} {v v':Value} {rs:List RS} {Q:List (List Rat)}
theorem OwnF.lower {b b':Nat} {u:Value} {q:List Rat} (h:OwnF tF w b u q) (hb:b' <= b):OwnF tF w b' u q:=by
 obtain ⟨es,e1,e2,e3⟩:=h;refine ⟨es,?_,e2,e3⟩
 rcases e1 with e1 | ⟨g2,sp,e4,e5,e6,e7⟩
 ·exact .inl e1
 ·exact .inr ⟨g2,sp,e4,Nat.le_trans hb e5,e6,e7⟩
end
def Zdj (f:Nat->List Rat) (n i t:Nat):List (List Rat):=(List.range n).map fun j=>if j < i then f j else if j=i then (f j).take t else []
theorem Zt1 (f:Nat->List Rat) (n i t:Nat):(Zdj f n i t).length=n:=by unfold Zdj;simp
theorem Zne {f:Nat->List Rat} {n i t j:Nat} (hj:j < n):(Zdj f n i t)[j]?.getD []=if j < i then f j else if j=i then (f j).take t else []:=by
 unfold Zdj;rw [List.getElem?_map,List.getElem?_range hj];rfl
theorem Zsf (f:Nat->List Rat) (n:Nat):Zdj f n 0 0=List.replicate n []:=by
 unfold Zdj
 apply List.ext_getElem?
 intro j;rw [List.getElem?_map]
 by_cases hj:j < n
 ·rw [List.getElem?_range hj,Option.map_some,if_neg (Nat.not_lt_zero _),List.take_zero,ite_self,List.getElem?_replicate,if_pos hj]
 ·rw [List.getElem?_eq_none (by simpa using hj),List.getElem?_replicate,if_neg hj];rfl
theorem Zre {f:Nat->List Rat} {n i t:Nat} (h:(f i).length <= t):Zdj f n i t=Zdj f n (i+1) 0:=by
 unfold Zdj
 refine List.map_congr_left fun j hj=>?_
 rcases Nat.lt_trichotomy j i with h1 | h1 | h1
 ·rw [if_pos h1,if_pos (by omega)]
 ·subst h1;rw [if_neg (Nat.lt_irrefl _),if_pos rfl,if_pos (by omega),List.take_of_length_le h]
 ·rw [if_neg (by omega),if_neg (by omega),if_neg (by omega),List.take_zero,ite_self]
theorem Zuo (f:Nat->List Rat) (n:Nat):Zdj f n n 0=(List.range n).map f:=by
 unfold Zdj
 refine List.map_congr_left fun j hj=>?_
 rw [if_pos (by simpa using hj)]
theorem Zm2 {f:Nat->List Rat} {n i t:Nat} {x:Rat} (hi:i < n) (hx:(f i)[t]?=some x):(Zdj f n i t).set i ((Zdj f n i t)[i]?.getD [] ++ [x])=Zdj f n i (t+1):=by
 apply List.ext_getElem?
 intro j;rw [List.getElem?_set,Zt1,Zne hi,if_neg (Nat.lt_irrefl _),if_pos rfl]
 by_cases hij:i=j
 ·subst hij
  rw [if_pos rfl,if_pos hi];unfold Zdj;rw [List.getElem?_map,List.getElem?_range hi,Option.map_some,if_neg (Nat.lt_irrefl _),if_pos rfl,List.take_add_one,hx]
  rfl
 ·rw [if_neg hij]
  unfold Zdj;rw [List.getElem?_map,List.getElem?_map]
  by_cases hj:j < n
  ·rw [List.getElem?_range hj]
   simp only [Option.map_some,Option.some.injEq]
   by_cases h:j < i
   ·rw [if_pos h,if_pos h]
   ·rw [if_neg h,if_neg h,if_neg (by omega),if_neg (by omega)]
  ·rw [List.getElem?_eq_none (by simpa using hj)];rfl
def Zv (rs:List RI) (k i:Nat):Int:=((rs[i]?.map RI.l).getD [])[k]?.getD 0
def Z5 (l:List Int) (i:Nat):Int:=l[i]?.getD 0
def Zfg (rs:List RI) (rr ws:List Int) (n m i:Nat):List Rat:=(List.range m).map (fun k=>((Za4 ws (Zv rs i) (Zv rs k) n:Int):Rat)) ++ [((Za4 ws (Zv rs i) (Z5 rr) n:Int):Rat)]
def Zbi (rs:List RI) (rr ws:List Int) (n m:Nat):List (List Rat):=(List.range m).map (Zfg rs rr ws n m)
theorem Zel (rs:List RI) (rr ws:List Int) (n m i:Nat):(Zfg rs rr ws n m i).length=m+1:=by unfold Zfg;simp
theorem Zqv {rs:List RI} {rr ws:List Int} {n m i k:Nat} (h:k < m):(Zfg rs rr ws n m i)[k]?=some ((Za4 ws (Zv rs i) (Zv rs k) n:Int):Rat):=by
 unfold Zfg;rw [List.getElem?_append_left (by simpa using h),List.getElem?_map,List.getElem?_range h];rfl
theorem Zno {rs:List RI} {rr ws:List Int} {n m i:Nat}:(Zfg rs rr ws n m i)[m]?=some ((Za4 ws (Zv rs i) (Z5 rr) n:Int):Rat):=by
 unfold Zfg;rw [List.getElem?_append_right (by simp)];simp
theorem Zkr {rs:List RI} {i k:Nat} {r:RI} (h:rs[i]?=some r):Zv rs k i=r.l[k]?.getD 0:=by unfold Zv;rw [h];rfl
theorem MIL.i64 {w:World} {A:Option Addr} {n c:Nat} {rs:List RI} (h:MIL w A n c rs) (k i:Nat):I64 (Zv rs k i):=by
 unfold Zv
 cases hr:rs[i]? with
 | none=>unfold I64;simp
 | some r=>exact Zco (h.2.2.2.1 r (List.mem_of_getElem? hr)).2.2.2.1 k
def colG (gR:Nat) (k:Nat) (v:Value) (w:World):Prop:=∃ g,v=.func (.func 113) #[] #[.pointer (some ⟨gR,0,none⟩),.pointer (some ⟨g,0,none⟩)]/\Blk w g 3 #[.int .i64 k]
def fracG (v:Value) (q:Rat) (w:World):Prop:=∃ na A n c nb B m d,v=.agg #[.bool na,.slice A n c,.bool nb,.slice B m d]/\Fr w na A n c nb B m d q
theorem Zll {gR k:Nat} {v:Value} {w w':World} (hb:Below w.heap.size w w') (h:colG gR k v w):colG gR k v w':=by
 obtain ⟨g,e,h1⟩:=h;exact ⟨g,e,Zc hb h1⟩
theorem Zp5 {v:Value} {q:Rat} {w w':World} (hb:Below w.heap.size w w') (h:fracG v q w):fracG v q w':=by
 obtain ⟨na,A,n,c,nb,B,m,d,e,hf⟩:=h;exact ⟨na,A,n,c,nb,B,m,d,e,hf.below hb⟩
def Zh6 (c1 c2 dt:Nat) (gR i k:Nat) (q:Rat) (j:Nat) (v:Value) (w:World):Prop:=if j=c1 then colG gR i v w else if j=c2 then colG gR k v w else if j=dt then fracG v q w else True
theorem Zlu {c1 c2 dt gR i k:Nat} {q:Rat} {j:Nat} {v:Value} {w w':World} (hb:Below w.heap.size w w') (h:Zh6 c1 c2 dt gR i k q j v w):Zh6 c1 c2 dt gR i k q j v w':=by
 unfold Zh6 at h ⊢
 split at h
 ·rename_i e;rw [if_pos e];exact Zll hb h
 rename_i e;rw [if_neg e];clear e
 split at h
 ·rename_i e;rw [if_pos e];exact Zll hb h
 rename_i e;rw [if_neg e];clear e
 split at h
 ·rename_i e;rw [if_pos e];exact Zp5 hb h
 rename_i e;rw [if_neg e];trivial
theorem Zkb (x y z:Value) (W:World):(callFunc 113 #[x,y,z]).run Tryz.prog W=.ok (.enter 113 #[x,y,z]) W:=by simp [go_sem]
theorem Zsn (x y:Value) (W:World):(callFunc 114 #[x,y]).run Tryz.prog W=.ok (.enter 114 #[x,y]) W:=by simp [go_sem]
theorem Zj1 (gR k:Nat) (w:World) :
    Calls Tryz.prog 112 #[.int .i64 k,.pointer (some ⟨gR,0,none⟩)] w fun e w'=>∃ v,e=.returned v/\Below w.heap.size w w'/\colG gR k v w':=by
 obtain ⟨W0,hW0,hB0,q0,s0⟩:=Zbr w 3 #[.int .i64 k];go_enter Tryz.func112,Tryz.ntmps112;go_wp2_with fail;(try rw [hW0]);go_ret;exact ⟨_,rfl,hB0,_,rfl,q0⟩
theorem Zis (A:Option Addr) (n c m:Nat) (rs:List RI) (gR g k i:Nat) (w:World) (h:MIL w A n c rs) (hR:w.cell? ⟨gR,0,none⟩=some (.slice A n c)) (hg:w.cell? ⟨g,0,none⟩=some (.int .i64 k)) (hi:i < n) (hk:k < m) (hm:∀ r ∈ rs,r.n=m) (hm9:m <= 900) (hn9:n <= 900) :
    Calls Tryz.prog 113 #[.int .i64 i,.pointer (some ⟨gR,0,none⟩),.pointer (some ⟨g,0,none⟩)] w fun e w'=>e=.returned (.int .i64 (Zv rs k i))/\Below w.heap.size w w':=by
 obtain ⟨ga,oa,r,rfl,hr,c0,hL⟩:=h.at_ hi;have hrm:=hm r (List.mem_of_getElem? hr);have hl:=hL.1;obtain ⟨gb,ob,hrA,hcc⟩:=hL.2.2.2.2 (by omega);have c1:=hcc k (by omega);rw [Zkr hr];rw [hrA,hrm] at c0;obtain ⟨z,hz⟩:∃ z,r.l[k]?.getD 0=z:=⟨_,rfl⟩;rw [hz] at c1 ⊢;clear hz
 have b1:(i:Int) < (n:Int):=by omega
 have b2:(k:Int) < (m:Int):=by omega
 clear h hL hcc hr hm;go_enter Tryz.func113,Tryz.ntmps113;go_wp2_with fail
 go_quiet (fail)
 go_wp2_with fail;go_ret;exact ⟨rfl,by first | exact Below.refl _ _ | exact Zf (Below.refl _ _) _⟩
theorem side_ok (B:Option Addr) (n d:Nat) (rr:List Int) (gT i:Nat) (w:World) (h:LimI w B n d rr) (hT:w.cell? ⟨gT,0,none⟩=some (.slice B n d)) (hi:i < n) (hn9:n <= 900) :
    Calls Tryz.prog 114 #[.int .i64 i,.pointer (some ⟨gT,0,none⟩)] w fun e w'=>e=.returned (.int .i64 (Z5 rr i))/\Below w.heap.size w w':=by
 obtain ⟨gb,ob,rfl,hcc⟩:=h.2.2.2.2 (by omega);have c1:=hcc i hi
 have b1:(i:Int) < (n:Int):=by omega
 unfold Z5;clear h hcc;go_enter Tryz.func114,Tryz.ntmps114;go_wp2_with fail;go_ret;exact ⟨rfl,by first | exact Below.refl _ _ | exact Zf (Below.refl _ _) _⟩
theorem Zky (A B C:Option Addr) (n c d e0 m:Nat) (rs:List RI) (rr ws:List Int) (w:World) (h:MIL w A n c rs) (hr:LimI w B n d rr) (hw:LimI w C n e0 ws) (hn0:0 < n) (hn9:n <= 900) (hm0:0 < m) (hm9:m <= 900) (hrow:∀ r ∈ rs,r.n=m) :
    Calls Tryz.prog 61 #[.slice A n c,.slice B n d,.slice C n e0] w fun e w'=>∃ go rs',e=.returned (.slice (some ⟨go,0,none⟩) m m)/\Below w.heap.size w w'/\rs'.length=m/\∃ base,w.heap.size <= base/\MatA 40 45 w' base go rs' (Zbi rs rr ws n m):=by
 have hmx:Tryz.prog.follows .mixedOrders=true:=by kernel_rfl
 have hts:(40:TypeId) ≠ 45:=by decide
 obtain ⟨iF,hi,hz0,hz1,hz2⟩:=info_parts Ze2;obtain ⟨iS,ki,kz0,kz1,kz2⟩:=info_parts Zjm;obtain ⟨V0,hV0,hBV,⟨p0,p1⟩,sV⟩:=Zf5 w 33 #[.slice A n c] 34 #[.slice B n d];obtain ⟨gR,hgR⟩:∃ g,w.heap.size=g:=⟨_,rfl⟩;rw [hgR] at p0 p1;obtain ⟨gT,hgT⟩:∃ g,gR+1=g:=⟨_,rfl⟩;rw [hgT] at p1;obtain ⟨base,hbs⟩:∃ g,V0.heap.size=g:=⟨_,rfl⟩;obtain ⟨W0,hW0⟩:∃ X,V0.alloc (.cells (Z7 (List.replicate m Zay)) 40)=X:=⟨_,rfl⟩
 have hbW:Below base V0 W0:=by rw [<- hW0,<- hbs];exact (Below.refl _ _).alloc (Nat.le_refl _) _
 have q0:Blk W0 base 40 (Z7 (List.replicate m Zay)):=by rw [<- hW0,<- hbs];exact Blk.new _ _ _
 have hwb:w.heap.size <= base:=by rw [<- hbs];exact hBV.size
 have hb3b:base <= W0.heap.size:=by rw [<- hW0];simp [hbs]
 have hVW:Below V0.heap.size V0 W0:=by rw [hbs];exact hbW
 have hVx:∀ wx,Below base W0 wx->Below V0.heap.size V0 wx:=fun wx hb=>by rw [hbs];exact hbW.trans hb
 have hMI:Hid (∀ wx,Below base W0 wx->MIL wx A n c rs):=Za (fun wx hb=>(h.below hBV).below (hVx wx hb));have hRI:Hid (∀ wx,Below base W0 wx->LimI wx B n d rr):=Za (fun wx hb=>(hr.below hBV).below (hVx wx hb));have hWI:Hid (∀ wx,Below base W0 wx->LimI wx C n e0 ws):=Za (fun wx hb=>(hw.below hBV).below (hVx wx hb));have cR:Hid (∀ wx,Below base W0 wx->wx.cell? ⟨gR,0,none⟩=some (.slice A n c)):=Za (fun wx hb=>Zb (hVx wx hb) (p0.cell 0));have cT:Hid (∀ wx,Below base W0 wx->wx.cell? ⟨gT,0,none⟩=some (.slice B n d)):=Za (fun wx hb=>Zb (hVx wx hb) (p1.cell 0))
 have hM0:Hid (MatA 40 45 W0 base base (List.replicate m Zay) (Zdj (Zfg rs rr ws n m) m 0 0)):=Za (by
  rw [Zsf];refine ⟨⟨[],by rw [List.append_nil];exact q0⟩,Nat.le_refl _,by simp,fun i r hr=>?_,fun i j r s k hr hs hij h1=>?_⟩
  ·rw [List.getElem?_replicate] at hr
   split at hr
   ·rename_i hi
    cases hr
    rw [List.getElem?_replicate,if_pos hi];exact OwnF.nil _ _ _
   ·cases hr
  ·rw [List.getElem?_replicate] at hr
   split at hr
   ·cases hr;cases h1
   ·cases hr)
 obtain ⟨g0,o0,r0,hA0,hr0,cr0,-⟩:=(h.below hBV).at_ (i:=0) hn0;rw [hA0] at p0;have hr0n:=hrow r0 (List.mem_of_getElem? hr0);rw [Nat.add_zero,hr0n] at cr0;have p00:V0.cell? ⟨gR,0,none⟩=some (.slice (some ⟨g0,o0,none⟩) n c):=p0.cell 0;have hmk:=Zot (P:=Tryz.prog) 22 40 Tryz.underlying22 ki kz0 kz1 kz2 (m:Int) m rfl (by omega) V0;subst hA0;replace hrow:=Za hrow;replace hBW0:=Za (hBV.trans (hVW.mono hBV.size));replace hr:=Za hr;clear p0 p1 q0 hbW h hw hr0 hVW hVx
 have hgb:gT+1=base:=by omega
 subst hV0;go_enter Tryz.func61,Tryz.ntmps61;go_wp2_with fail;replace hgR:=Za hgR;replace hgT:=Za hgT;replace hgb:=Za hgb;clear p00 cr0 hmk hbs hW0 sV hBV
 go_loopg [21] m (fun k iv wr=>∃ (i:Nat) (rs4:List RS),i+k=m/\iv=.int .i64 i/\Hid (rs4.length=m)/\MatA 40 45 wr base base rs4 (Zdj (Zfg rs rr ws n m) m i 0)/\Below base W0 wr)
 case atStart=>exact ⟨0,List.replicate m Zay,by omega,rfl,Za (by simp),hM0.out,Below.refl _ _⟩
 case round =>
  clear hM0;obtain ⟨i,rs4,hik,rfl,hrl,hM,hBr⟩:=hrel
  cases gk with
  | zero =>
   obtain rfl:i=m:=by omega
   have t2:decide ((i:Int) < (i:Int))=false:=by simp
   have hBw:=hBW0.out.trans (hBr.mono hwb);rw [Zuo] at hM;replace hM:=Za hM;go_wp2_with fail;go_ret;exact ⟨base,rs4,rfl,hBw,hrl.out,base,hwb,hM.out⟩
  | succ k' =>
   obtain rfl:k'=m - (i+1):=by omega
   have him:i < m:=by omega
   have t2:decide ((i:Int) < (m:Int))=true:=decide_eq_true (by omega)
   have bi:(i:Int) < (m:Int):=by omega
   replace hM:=Za hM;replace hBr:=Za hBr;go_wp2_with fail
   go_loopg [26] m (fun k kv wx=>∃ (t:Nat) (rs5:List RS),t+k=m/\kv=.int .i64 t/\Hid (rs5.length=m)/\MatA 40 45 wx base base rs5 (Zdj (Zfg rs rr ws n m) m i t)/\Below base W0 wx)
   case atStart=>exact ⟨0,rs4,by omega,rfl,hrl,hM.out,hBr.out⟩
   case round =>
    clear hM hBr hrl;obtain ⟨t,rs5,htk,rfl,hrl,hM,hBr⟩:=hrel
    have hqi:((Zdj (Zfg rs rr ws n m) m i t)[i]?.getD []).length+1 <= 1000:=by
     rw [Zne him,if_neg (Nat.lt_irrefl _),if_pos rfl,List.length_take,Zel];omega
    have hbase0:base <= wr.heap.size:=Nat.le_trans hb3b hBr.size;obtain ⟨r,hrr⟩:=Zcv (L:=rs5) (i:=i) (by rw [hrl.out];exact him);obtain ⟨cr,zr⟩:=hM.cell hrr;replace hM:=Za hM;replace hqi:=Za hqi
    cases gk with
    | zero =>
     obtain rfl:m=t:=by omega
     have t3:decide ((m:Int) < (m:Int))=false:=by simp
     go_wp2_with fail;obtain ⟨X0,hX0⟩:∃ X,wr.drew=X:=⟨_,rfl⟩
     have hr1:Below wr.heap.size wr X0:=by rw [<- hX0];exact Zf (Below.refl _ _) 1
     have hSv1:Hid (∀ wx,Below wr.heap.size wr wx->wx.cell? ⟨base,i,none⟩=some (.slice r.A r.n r.c)):=Za (fun wx hbx=>Zb hbx cr);refine wp_heldS [15] hmx hSv1 (by rw [hX0];exact hr1) (fun hxs=>?_);rw [hX0];refine Zi4 10 [0,1,2,3,4,5,6,7,8,10] rfl (by kernel_rfl) (hSv1.out _ hr1) ?_
     iterate 10 (refine tk1 (v:=?_) rfl (Or.inl ⟨by kernel_rfl,?_⟩) ?_;rotate_left;(· intro W2 hSw;(try dsimp only at hSw);go_simp;try with_reducible rfl);try simp only [Act.put,Zgj,Zfx,Zge,putG_a,putG_s,putG_z])
     refine tk0 ?_;refine Zbm [(9,56),(11,58)] (fun _=>[]) [(9,56),(11,58)] (Zh6 9 99 11 gR i 0 ((Za4 ws (Zv rs i) (Z5 rr) n:Int):Rat)) 4 (by kernel_rfl) (fun _ _ _ _ _ hb h=>Zlu hb h) (fun wx h=>hSv1.out _ (hr1.trans (h.mono hr1.size))) ?hop ?hfin
     case hop =>
      intro p hp;simp only [List.mem_cons,List.not_mem_nil,or_false] at hp;simp only [List.map_cons,List.map_nil,Zaw,Act.put,Zgj,Zfx,Zge]
      rcases hp with rfl | rfl
      ·intro ν wx hb hP
       refine Zl (i:=9) rfl (fun K hK=>?_);go_simp;refine (Zj1 gR i wx).mono ?_;rintro e w5 ⟨v5,rfl,hb5,hc5⟩;exact hK.out _ _ ⟨_,rfl,(by simp only [Zh6];exact hc5),hb5,trivial⟩
      ·intro ν wx hb hP
       have hbx:=hBr.trans ((hr1.trans (hb.mono hr1.size)).mono hbase0);have hmx3:=hMI.out wx hbx;have hwx:=hWI.out wx hbx;have hRx:=cR.out wx hbx;have hTx:=cT.out wx hbx;have hrx:=hRI.out wx hbx;have h3:=hP (9,56) (by simp) (by kernel_rfl);simp only [Zh6] at h3;obtain ⟨g3,hν3,hg3⟩:=h3;rw [hν3];refine Zl (i:=11) rfl (fun K hK=>?_);go_simp;refine (Zwd 113 114 (.pointer (some ⟨gR,0,none⟩)) (.pointer (some ⟨g3,0,none⟩)) (.pointer (some ⟨gT,0,none⟩)) C n e0 ws (Zv rs i) (Z5 rr) wx hwx hn9 (fun j _=>hmx3.i64 _ _) (fun j _=>Zco hr.out.2.2.2.1 j) (fun x W=>Zkb _ _ _ W) (fun x W=>Zsn _ _ W) (fun W j hbW hj=>Zis _ n c m rs gR g3 i j W (hmx3.below hbW) (Zb hbW hRx) (Zb hbW (hg3.cell 0)) hj him hrow.out hm9 hn9) (fun W j hbW hj=>side_ok B n d rr gT j W (hrx.below hbW) (Zb hbW hTx) hj hn9)).mono ?_;rintro e w5 ⟨hb5,na5,A5,k5,c5,nb5,B5,m5,d5,rfl,hf5⟩;exact hK.out _ _ ⟨_,rfl,(by simp only [Zh6];exact ⟨_,_,_,_,_,_,_,_,rfl,hf5⟩),hb5,trivial⟩
     case hfin =>
      intro ν X00 hb00 hP;have h3:=hP (9,56) (by simp);have h5:=hP (11,58) (by simp);simp only [Zh6] at h3 h5;obtain ⟨g3,h3,-⟩:=h3
      skip
      obtain ⟨n6,A6,k6,c6,m6,B6,j6,d6,h5,hf6⟩:=h5;simp only [List.map_cons,List.map_nil,Zaw,Act.put,Zgj,Zfx,Zge];rw [h3,h5];clear h3 h5 hP ν;have hr0:Below wr.heap.size wr X00:=hr1.trans (hb00.mono hr1.size);obtain ⟨Y1,hY1⟩:∃ Y,X00.alloc (.cells #[.bool n6,.slice A6 k6 c6,.bool m6,.slice B6 j6 d6] 45)=Y:=⟨_,rfl⟩;obtain ⟨ga,hga⟩:∃ g,X00.heap.size=g:=⟨_,rfl⟩
      have hBY:Below X00.heap.size X00 Y1:=by rw [<- hY1];exact (Below.refl _ _).alloc (Nat.le_refl _) _
      have hbl:Blk Y1 ga 45 #[.bool n6,.slice A6 k6 c6,.bool m6,.slice B6 j6 d6]:=by rw [<- hY1,<- hga];exact Blk.new _ _ _
      have hr2:Below wr.heap.size wr Y1:=hr0.trans (hBY.mono hr0.size);refine Ze (i:=12) rfl (by kernel_rfl) (fun K hK=>?_);go_simp;(try rw [hY1]);(try rw [hga]);refine hK.out _ _ (fun _=>hSv1.out _ hr2) ?_;clear hK K hY1 hga
      try simp only [Act.put,Zgj,Zfx,Zge]
      have hAY:=(hM.out).below hr2;have hfY:=hf6.below hBY;have hYb:base <= Y1.heap.size:=Nat.le_trans hbase0 hr2.size;have hOr:=hAY.2.2.2.1 i r hrr;refine Ze (i:=13) rfl (by kernel_rfl) (fun K hK=>?_);rw [if_pos (by rfl)];refine Zgm _ (.tmp 52) (.tmp 59) 40 rfl base 45 iF Tryz.underlying40 hi hz0 hz1 hz2 (r).val _ rfl hOr _ (some ⟨ga,0,none⟩) 1 1 [⟨n6,A6,k6,c6,m6,B6,j6,d6,((Za4 ws (Zv rs i) (Z5 rr) n:Int):Rat)⟩] rfl (Zf3 _ hbl) rfl (by intro e he;rw [List.mem_singleton] at he;subst he;exact hfY) hqi.out hYb ?_;intro v2 Y2 hO2 hg2 hk2 hw2
      obtain ⟨nA,nn,nc,rfl⟩:∃ A n c,v2=.slice A n c:=by
       obtain ⟨A,c,e,-⟩:=hO2.fl;exact ⟨_,_,_,e⟩
      have hown:=hOr.ownBlk
      have hsame:∀ (g o:Nat) (v:Value),(r).val.ownBlock ≠ some g->Y1.cell? ⟨g,o,none⟩=some v->Y2.cell? ⟨g,o,none⟩=some v:=fun g o v hgg hv=>by
       rw [<- hv];exact World.cell?_of_block (hg2.block g (Zp hv) (fun e=>hgg e.symm))
      have hM9:=Za (hAY.app hts (i:=i) (r':=⟨nA,nn,nc⟩) hrr hg2 hO2 hk2 hw2);rw [List.map_cons,List.map_nil,show (FE.q ⟨n6,A6,k6,c6,m6,B6,j6,d6,((Za4 ws (Zv rs i) (Z5 rr) n:Int):Rat)⟩)=((Za4 ws (Zv rs i) (Z5 rr) n:Int):Rat) from rfl,Zm2 him (Zno)] at hM9
      have hngo:r.val.ownBlock ≠ some base:=fun e=>by
       obtain ⟨cs,a1,-,-⟩:=hown base e;obtain ⟨⟨zs,a2⟩,-⟩:=hAY;exact hts (a2.type a1)
      have hS2:Y2.cell? ⟨base,i,none⟩=some (.slice r.A r.n r.c):=hsame _ _ _ hngo (hSv1.out _ hr2);have hB9:Hid (Below base W0 (Y2.setCell ⟨base,i,none⟩ (RS.val ⟨nA,nn,nc⟩))):=Za (((hBr.trans (hr2.mono hbase0)).grown hg2 (Nat.le_trans hb3b (hBr.trans (hr2.mono hbase0)).size) (fun k hk=>(hown k hk).choose_spec.2.2)).setCell hM9.out.2.1 _)
      have kzO:Y2.frozen? ⟨base,i,none⟩=false:=by
       rw [World.frozen?_of_block (hg2.block base (by obtain ⟨⟨zs,a2⟩,-⟩:=hAY;exact a2.lt) (fun e=>hngo e.symm))];exact (hAY.cell hrr).2
      refine hK.out _ _ (fun _=>hS2) ?_;clear hK K
      try simp only [Act.put,Zgj,Zfx,Zge]
      refine Zfy 1 [14] rfl (by kernel_rfl) hS2 ?_
      (refine tk1 (v:=?_) rfl (Or.inl ⟨by kernel_rfl,?_⟩) ?_;rotate_left;(· intro W2 _;go_simp;try with_reducible rfl);try simp only [Act.put,Zgj,Zfx,Zge,putG_a,putG_s,putG_z])
      refine tk0 ?_;have kO2:=hS2;have hl9:Hid ((rs5.set i ⟨nA,nn,nc⟩).length=m):=Za (by rw [List.length_set];exact hrl.out);clear hS2 hO2 hown hOr hAY hfY hbl hBY hr2 hsame hngo;refine Zu (i:=15) rfl (by kernel_rfl) (by kernel_rfl) (fun K hK=>?_);go_simp;refine hK.out _ _ ?_;clear hK K
      try simp only [Act.put,Zgj,Zfx,Zge]
      refine Zk (by kernel_rfl) ?_ _;refine OnlyNormal.normal ?_;clear kO2 kzO hxs hSv1 hr1 hr0 hb00 hf6 cr zr hg2 hk2 hw2;go_wp2_with fail;rw [Zre (by rw [Zel];exact Nat.le_refl _)] at hM9
      go_roundg (m - (i+1))
      case measure=>omega
      case rel=>exact ⟨i+1,_,by omega,by go_num,hl9,hM9.out,hB9.out⟩
    | succ k2 =>
     obtain rfl:k2=m - (t+1):=by omega
     have htm:t < m:=by omega
     have t3:decide ((t:Int) < (m:Int))=true:=decide_eq_true (by omega);go_wp2_with fail;obtain ⟨X0,hX0⟩:∃ X,wr.drew=X:=⟨_,rfl⟩
     have hr1:Below wr.heap.size wr X0:=by rw [<- hX0];exact Zf (Below.refl _ _) 1
     have hSv1:Hid (∀ wx,Below wr.heap.size wr wx->wx.cell? ⟨base,i,none⟩=some (.slice r.A r.n r.c)):=Za (fun wx hbx=>Zb hbx cr);refine wp_heldS [17] hmx hSv1 (by rw [hX0];exact hr1) (fun hxs=>?_);rw [hX0];refine Zi4 11 [0,1,2,3,4,5,6,7,8,10,11] rfl (by kernel_rfl) (hSv1.out _ hr1) ?_
     iterate 11 (refine tk1 (v:=?_) rfl (Or.inl ⟨by kernel_rfl,?_⟩) ?_;rotate_left;(· intro W2 hSw;(try dsimp only at hSw);go_simp;try with_reducible rfl);try simp only [Act.put,Zgj,Zfx,Zge,putG_a,putG_s,putG_z])
     refine tk0 ?_;refine Zbm [(9,38),(12,41),(13,42)] (fun _=>[]) [(9,38),(12,41),(13,42)] (Zh6 9 12 13 gR i t ((Za4 ws (Zv rs i) (Zv rs t) n:Int):Rat)) 4 (by kernel_rfl) (fun _ _ _ _ _ hb h=>Zlu hb h) (fun wx h=>hSv1.out _ (hr1.trans (h.mono hr1.size))) ?hop ?hfin
     case hop =>
      intro p hp;simp only [List.mem_cons,List.not_mem_nil,or_false] at hp;simp only [List.map_cons,List.map_nil,Zaw,Act.put,Zgj,Zfx,Zge]
      rcases hp with rfl | rfl | rfl
      ·intro ν wx hb hP
       refine Zl (i:=9) rfl (fun K hK=>?_);go_simp;refine (Zj1 gR i wx).mono ?_;rintro e w5 ⟨v5,rfl,hb5,hc5⟩;exact hK.out _ _ ⟨_,rfl,(by simp only [Zh6];exact hc5),hb5,trivial⟩
      ·intro ν wx hb hP
       refine Zl (i:=12) rfl (fun K hK=>?_);go_simp;refine (Zj1 gR t wx).mono ?_;rintro e w5 ⟨v5,rfl,hb5,hc5⟩;exact hK.out _ _ ⟨_,rfl,(by simp only [Zh6];exact hc5),hb5,trivial⟩
      ·intro ν wx hb hP
       have hbx:=hBr.trans ((hr1.trans (hb.mono hr1.size)).mono hbase0);have hmx3:=hMI.out wx hbx;have hwx:=hWI.out wx hbx;have hRx:=cR.out wx hbx;have hTx:=cT.out wx hbx;have hrx:=hRI.out wx hbx;have h3:=hP (9,38) (by simp) (by kernel_rfl);simp only [Zh6] at h3;obtain ⟨g3,hν3,hg3⟩:=h3;rw [hν3];have h4:=hP (12,41) (by simp) (by kernel_rfl);simp only [Zh6] at h4;obtain ⟨g4,hν4,hg4⟩:=h4;rw [hν4];refine Zl (i:=13) rfl (fun K hK=>?_);go_simp;refine (Zwx 113 113 (.pointer (some ⟨gR,0,none⟩)) (.pointer (some ⟨g3,0,none⟩)) (.pointer (some ⟨gR,0,none⟩)) (.pointer (some ⟨g4,0,none⟩)) C n e0 ws (Zv rs i) (Zv rs t) wx hwx hn9 (fun j _=>hmx3.i64 _ _) (fun j _=>hmx3.i64 _ _) (fun x W=>Zkb _ _ _ W) (fun x W=>Zkb _ _ _ W) (fun W j hbW hj=>Zis _ n c m rs gR g3 i j W (hmx3.below hbW) (Zb hbW hRx) (Zb hbW (hg3.cell 0)) hj him hrow.out hm9 hn9) (fun W j hbW hj=>Zis _ n c m rs gR g4 t j W (hmx3.below hbW) (Zb hbW hRx) (Zb hbW (hg4.cell 0)) hj htm hrow.out hm9 hn9)).mono ?_;rintro e w5 ⟨hb5,na5,A5,k5,c5,nb5,B5,m5,d5,rfl,hf5⟩;exact hK.out _ _ ⟨_,rfl,(by simp only [Zh6];exact ⟨_,_,_,_,_,_,_,_,rfl,hf5⟩),hb5,trivial⟩
     case hfin =>
      intro ν X00 hb00 hP;have h3:=hP (9,38) (by simp);have h5:=hP (13,42) (by simp);have h4:=hP (12,41) (by simp);simp only [Zh6] at h3 h5 h4;obtain ⟨g3,h3,-⟩:=h3;obtain ⟨g4,h4,-⟩:=h4;obtain ⟨n6,A6,k6,c6,m6,B6,j6,d6,h5,hf6⟩:=h5;simp only [List.map_cons,List.map_nil,Zaw,Act.put,Zgj,Zfx,Zge];rw [h3,h4,h5];clear h3 h4 h5 hP ν;have hr0:Below wr.heap.size wr X00:=hr1.trans (hb00.mono hr1.size);obtain ⟨Y1,hY1⟩:∃ Y,X00.alloc (.cells #[.bool n6,.slice A6 k6 c6,.bool m6,.slice B6 j6 d6] 45)=Y:=⟨_,rfl⟩;obtain ⟨ga,hga⟩:∃ g,X00.heap.size=g:=⟨_,rfl⟩
      have hBY:Below X00.heap.size X00 Y1:=by rw [<- hY1];exact (Below.refl _ _).alloc (Nat.le_refl _) _
      have hbl:Blk Y1 ga 45 #[.bool n6,.slice A6 k6 c6,.bool m6,.slice B6 j6 d6]:=by rw [<- hY1,<- hga];exact Blk.new _ _ _
      have hr2:Below wr.heap.size wr Y1:=hr0.trans (hBY.mono hr0.size);refine Ze (i:=14) rfl (by kernel_rfl) (fun K hK=>?_);go_simp;(try rw [hY1]);(try rw [hga]);refine hK.out _ _ (fun _=>hSv1.out _ hr2) ?_;clear hK K hY1 hga
      try simp only [Act.put,Zgj,Zfx,Zge]
      have hAY:=(hM.out).below hr2;have hfY:=hf6.below hBY;have hYb:base <= Y1.heap.size:=Nat.le_trans hbase0 hr2.size;have hOr:=hAY.2.2.2.1 i r hrr;refine Ze (i:=15) rfl (by kernel_rfl) (fun K hK=>?_);rw [if_pos (by rfl)];refine Zgm _ (.tmp 34) (.tmp 43) 40 rfl base 45 iF Tryz.underlying40 hi hz0 hz1 hz2 (r).val _ rfl hOr _ (some ⟨ga,0,none⟩) 1 1 [⟨n6,A6,k6,c6,m6,B6,j6,d6,((Za4 ws (Zv rs i) (Zv rs t) n:Int):Rat)⟩] rfl (Zf3 _ hbl) rfl (by intro e he;rw [List.mem_singleton] at he;subst he;exact hfY) hqi.out hYb ?_;intro v2 Y2 hO2 hg2 hk2 hw2
      obtain ⟨nA,nn,nc,rfl⟩:∃ A n c,v2=.slice A n c:=by
       obtain ⟨A,c,e,-⟩:=hO2.fl;exact ⟨_,_,_,e⟩
      have hown:=hOr.ownBlk
      have hsame:∀ (g o:Nat) (v:Value),(r).val.ownBlock ≠ some g->Y1.cell? ⟨g,o,none⟩=some v->Y2.cell? ⟨g,o,none⟩=some v:=fun g o v hgg hv=>by
       rw [<- hv];exact World.cell?_of_block (hg2.block g (Zp hv) (fun e=>hgg e.symm))
      have hM9:=Za (hAY.app hts (i:=i) (r':=⟨nA,nn,nc⟩) hrr hg2 hO2 hk2 hw2);rw [List.map_cons,List.map_nil,show (FE.q ⟨n6,A6,k6,c6,m6,B6,j6,d6,((Za4 ws (Zv rs i) (Zv rs t) n:Int):Rat)⟩)=((Za4 ws (Zv rs i) (Zv rs t) n:Int):Rat) from rfl,Zm2 him (Zqv htm)] at hM9
      have hngo:r.val.ownBlock ≠ some base:=fun e=>by
       obtain ⟨cs,a1,-,-⟩:=hown base e;obtain ⟨⟨zs,a2⟩,-⟩:=hAY;exact hts (a2.type a1)
      have hS2:Y2.cell? ⟨base,i,none⟩=some (.slice r.A r.n r.c):=hsame _ _ _ hngo (hSv1.out _ hr2);have hB9:Hid (Below base W0 (Y2.setCell ⟨base,i,none⟩ (RS.val ⟨nA,nn,nc⟩))):=Za (((hBr.trans (hr2.mono hbase0)).grown hg2 (Nat.le_trans hb3b (hBr.trans (hr2.mono hbase0)).size) (fun k hk=>(hown k hk).choose_spec.2.2)).setCell hM9.out.2.1 _)
      have kzO:Y2.frozen? ⟨base,i,none⟩=false:=by
       rw [World.frozen?_of_block (hg2.block base (by obtain ⟨⟨zs,a2⟩,-⟩:=hAY;exact a2.lt) (fun e=>hngo e.symm))];exact (hAY.cell hrr).2
      refine hK.out _ _ (fun _=>hS2) ?_;clear hK K
      try simp only [Act.put,Zgj,Zfx,Zge]
      refine Zfy 1 [16] rfl (by kernel_rfl) hS2 ?_
      (refine tk1 (v:=?_) rfl (Or.inl ⟨by kernel_rfl,?_⟩) ?_;rotate_left;(· intro W2 _;go_simp;try with_reducible rfl);try simp only [Act.put,Zgj,Zfx,Zge,putG_a,putG_s,putG_z])
      refine tk0 ?_;have kO2:=hS2;have hl9:Hid ((rs5.set i ⟨nA,nn,nc⟩).length=m):=Za (by rw [List.length_set];exact hrl.out);clear hS2 hO2 hown hOr hAY hfY hbl hBY hr2 hsame hngo;refine Zu (i:=17) rfl (by kernel_rfl) (by kernel_rfl) (fun K hK=>?_);go_simp;refine hK.out _ _ ?_;clear hK K
      try simp only [Act.put,Zgj,Zfx,Zge]
      refine Zk (by kernel_rfl) ?_ _;refine OnlyNormal.normal ?_;clear kO2 kzO hxs hSv1 hr1 hr0 hb00 hf6 cr zr hg2 hk2 hw2;go_wp2_with fail
      go_roundg (m - (t+1))
      case measure=>omega
      case rel=>exact ⟨t+1,_,by omega,by go_num,hl9,hM9.out,hB9.out⟩
theorem MXL.gat {w:World} {A:Option Addr} {n c:Nat} {rs:List RX} (h:MXL w A n c rs) (hE:Zfa rs=0) {k:Nat} (hk:k < n):∃ g o r,A=some ⟨g,o,none⟩/\rs[k]?=some r/\w.cell? ⟨g,o+k,none⟩=some (.slice r.A r.n r.c)/\FL w r.A r.n r.c ((qM rs)[k]?.getD [])/\r.n=n0R rs:=by
 obtain ⟨g,o,r,h1,h2,h3,h4⟩:=h.at_ hk;have hm:=(Zdx hE).2.2.2.2 r (List.mem_of_getElem? h2);refine ⟨g,o,r,h1,h2,h3,?_,hm.1⟩;unfold qM;rw [List.getElem?_map,h2];exact h4.fl (fun e he=>Zpa hm.2 e he)
theorem Zjz {rs:List RX} (h:sqE rs=0):Zfa rs=0/\rs.length=n0R rs:=by
 unfold sqE at h
 split at h
 ·rename_i h1
  split at h
  ·exact ⟨h1,by assumption⟩
  ·exact absurd h (by decide)
 ·rename_i h1;exact absurd h h1
theorem Znb {rs:List RX} {j i:Nat} (hi:i <= rs.length):(Zg4 rs j i).length=i:=by
 unfold Zg4;rw [List.length_map,List.length_take];omega
theorem Zq9 {rs:List RX} {j i:Nat} {r:RX} (h:rs[i]?=some r):Zg4 rs j i ++ [⟨r.A,j,r.c⟩]=Zg4 rs j (i+1):=by
 unfold Zg4;rw [List.take_add_one,h];simp
theorem Zpw {Q:List (List Rat)} {j:Nat} (h:j <= Q.length):(Zfk Q j).length=j:=by unfold Zfk;rw [List.length_map,List.length_take];omega
theorem Zlr {Q:List (List Rat)} {j i:Nat} (h:i < j) (hj:j <= Q.length):(Zfk Q j)[i]?.getD []=(Q[i]?.getD []).take j:=by
 unfold Zfk;rw [List.getElem?_map,List.getElem?_take,if_pos h,List.getElem?_eq_getElem (by omega)];rfl
theorem Zvr {w:World} {base:Nat} {v:Value} {A:Option Addr} {n c:Nat} {rs:List RX} (h:MXL w A n c rs) (hE:Zfa rs=0) {j:Nat} (hj:j <= n) (hj2:j <= n0R rs) (hR:RowS 40 w base v (Zg4 rs j j)):∃ A c,v=.slice A j c/\MFL w A j c (Zfk (qM rs) j):=by
 have hl:=h.1;have hq:(qM rs).length=n:=Zso h;have h1:=Znb (rs:=rs) (j:=j) (i:=j) (by omega)
 obtain ⟨A',c',e,hM⟩:=hR.mfl (Q:=Zfk (qM rs) j) (by rw [h1,Zpw (by omega)]) (fun i r hr=>by
  have hi:=(List.getElem?_eq_some_iff.1 hr).1;rw [h1] at hi;obtain ⟨g,o,r0,-,h2,-,h4,h5⟩:=h.gat hE (k:=i) (by omega);unfold Zg4 at hr;rw [List.getElem?_map,List.getElem?_take,if_pos hi,h2] at hr
  cases hr
  rw [Zlr hi (by omega)]
  exact h4.take (show j <= r0.n by omega))
 rw [h1] at e hM;exact ⟨A',c',e,hM⟩
theorem fCmp_ok (na nb na' nb':Bool) (A B A' B':Option Addr) (n c m d n' c' m' d':Nat) (a b:Rat) (w:World) (ha:Fr w na A n c nb B m d a) (hb:Fr w na' A' n' c' nb' B' m' d' b) (sa:Sm a) (sb:Sm b) :
    Calls Tryz.prog 55 #[.agg #[.bool na,.slice A n c,.bool nb,.slice B m d],.agg #[.bool na',.slice A' n' c',.bool nb',.slice B' m' d']] w fun e w'=>e=.returned (.tuple #[.int .i64 (Zh0 a b),.int .i64 0])/\Below w.heap.size w w':=by
 rw [<- Zqa];obtain ⟨R,hR⟩:∃ R,Zeh (a.num * b.den) (b.num * a.den)=R:=⟨_,rfl⟩;rw [hR];replace hR:=Za hR
 have hmx:Tryz.prog.follows .mixedOrders=true:=by kernel_rfl
 have h1:=Za (Zbg sa.1 sb.dn);have h2:=Za (Zbg sb.1 sa.dn);obtain ⟨W0,hW0,hB0,⟨q0,q1,q2⟩,s0⟩:=Zcy w 45 #[.bool na,.slice A n c,.bool nb,.slice B m d] 45 #[.bool na',.slice A' n' c',.bool nb',.slice B' m' d'] 24 #[.int .i64 0];have hA:=Za (ha.below hB0);have hD:=Za (hb.below hB0);clear ha hb sa sb;obtain ⟨a0,a1,a2,a3,-⟩:=q0.four;have hq:=Za (And.intro q0 (And.intro q1 q2));clear q0 q1 q2
 go_enter_defers Tryz.func55,Tryz.ntmps55
 go_wp2_with fail;refine (Zd3 na nb A B n c m d a W0 hA.out).mono ?_;rintro e w1 ⟨rfl,hb1⟩;have hB1:Below w.heap.size w w1:=hB0.trans (hb1.mono hB0.size);have s1:W0.heap.size <= w1.heap.size:=hb1.size;replace hA:=Za (hA.out.below hb1);replace hD:=Za (hD.out.below hb1);obtain ⟨q0,q1,q2⟩:=hq.out;replace q0:=Zc hb1 q0;replace q1:=Zc hb1 q1;replace q2:=Zc hb1 q2;clear hW0 hq hb1 hB0 a0 a1 a2 a3;obtain ⟨b0,b1,b2,b3,-⟩:=q1.four;have hq:=Za (And.intro q0 (And.intro q1 q2));clear q0 q1 q2;go_wp2_with fail;refine (Ze1 w1).mono ?_;rintro e w1 ⟨rfl,rfl⟩;go_wp2_with fail;refine (Zd3 na' nb' A' B' n' c' m' d' b w1 hD.out).mono ?_;rintro e w2 ⟨rfl,hb2⟩;have hB:=Za (hB1.trans (hb2.mono hB1.size));have sz:=Za hB.out.size;have s2:w1.heap.size <= w2.heap.size:=hb2.size;replace hA:=Za (hA.out.below hb2);replace hD:=Za (hD.out.below hb2);obtain ⟨q0,q1,q2⟩:=hq.out;replace q0:=Za (Zc hb2 q0);replace q1:=Za (Zc hb2 q1);replace q2:=Za (Zc hb2 q2);clear hq hb2 hB1 b0 b1 b2 b3;go_wp2_with fail;refine (Ze1 w2).mono ?_;rintro e w2 ⟨rfl,rfl⟩;obtain ⟨a0,a1,a2,a3,-⟩:=q0.out.four;obtain ⟨b0,b1,b2,b3,-⟩:=q1.out.four;go_wp2_with fail
 refine Zaj [10] (fun W'=>W'.cell? ⟨w.heap.size,0,none⟩=some (.bool na)/\W'.cell? ⟨w.heap.size,1,none⟩=some (.slice A n c)/\W'.cell? ⟨w.heap.size,2,none⟩=some (.bool nb)/\W'.cell? ⟨w.heap.size,3,none⟩=some (.slice B m d)/\W'.cell? ⟨w.heap.size+1,0,none⟩=some (.bool na')/\W'.cell? ⟨w.heap.size+1,1,none⟩=some (.slice A' n' c')/\W'.cell? ⟨w.heap.size+1,2,none⟩=some (.bool nb')/\W'.cell? ⟨w.heap.size+1,3,none⟩=some (.slice B' m' d')) hmx ⟨a0,a1,a2,a3,b0,b1,b2,b3⟩ (fun _=>?_);refine Zi4 4 [0,1,3,4] rfl (by kernel_rfl) ⟨a0,a1,a2,a3,b0,b1,b2,b3⟩ ?_
 iterate 4 (refine tk1 (v:=?_) rfl (Or.inl ⟨by kernel_rfl,?_⟩) ?_;rotate_left;(· intro W2 hSw;(try dsimp only at hSw);go_simp;try with_reducible rfl);try simp only [Act.put,Zgj,Zfx,Zge,putG_a,putG_s,putG_z])
 refine tk0 ?_;refine Ze (i:=2) rfl (by kernel_rfl) (fun K hK=>?_);go_simp;refine (Zex na nb na' nb' A B A' B' n c m d n' c' m' d' a b w2.drew hA.out hD.out h1.out).mono ?_;rintro e w3 ⟨hb3,nu,U,k1,u,rfl,hU⟩;replace hb3:=Zo hb3;replace hU:=Za hU;replace q0:=Za (Zc hb3 q0.out);replace q1:=Za (Zc hb3 q1.out);replace q2:=Za (Zc hb3 q2.out);replace hA:=Za (hA.out.below hb3);replace hD:=Za (hD.out.below hb3);replace hB:=Za (hB.out.trans (hb3.mono sz.out));replace sz:=Za (Nat.le_trans sz.out hb3.size);clear a0 a1 a2 a3 b0 b1 b2 b3;obtain ⟨a0,a1,a2,a3,-⟩:=q0.out.four;obtain ⟨b0,b1,b2,b3,-⟩:=q1.out.four;clear hb3;refine hK.out _ _ (fun _=>⟨a0,a1,a2,a3,b0,b1,b2,b3⟩) ?_;clear hK K
 try simp only [Act.put,Zgj,Zfx,Zge]
 refine Ze (i:=5) rfl (by kernel_rfl) (fun K hK=>?_);go_simp;refine (Zex na' nb' na nb A' B' A B n' c' m' d' n c m d b a w3 hD.out hA.out h2.out).mono ?_;rintro e w4 ⟨hb4,nv,V,k2,v,rfl,hV⟩;replace hU:=Za (hU.out.below hb4);replace hV:=Za hV;replace q0:=Za (Zc hb4 q0.out);replace q1:=Za (Zc hb4 q1.out);replace q2:=Za (Zc hb4 q2.out);replace hA:=Za (hA.out.below hb4);replace hD:=Za (hD.out.below hb4);replace hB:=Za (hB.out.trans (hb4.mono sz.out));replace sz:=Za (Nat.le_trans sz.out hb4.size);clear a0 a1 a2 a3 b0 b1 b2 b3;obtain ⟨a0,a1,a2,a3,-⟩:=q0.out.four;obtain ⟨b0,b1,b2,b3,-⟩:=q1.out.four;clear hb4;refine hK.out _ _ (fun _=>⟨a0,a1,a2,a3,b0,b1,b2,b3⟩) ?_;clear hK K
 try simp only [Act.put,Zgj,Zfx,Zge]
 refine Ze (i:=6) rfl (by kernel_rfl) (fun K hK=>?_);go_simp;refine (Zxf nu nv U V k1 u k2 v _ _ w4 hU.out hV.out).mono ?_;rw [hR.out];rintro e w5 ⟨rfl,hb5⟩;replace q0:=Za (Zc hb5 q0.out);replace q1:=Za (Zc hb5 q1.out);replace q2:=Za (Zc hb5 q2.out);replace hA:=Za (hA.out.below hb5);replace hD:=Za (hD.out.below hb5);replace hB:=Za (hB.out.trans (hb5.mono sz.out));replace sz:=Za (Nat.le_trans sz.out hb5.size);clear a0 a1 a2 a3 b0 b1 b2 b3;obtain ⟨a0,a1,a2,a3,-⟩:=q0.out.four;obtain ⟨b0,b1,b2,b3,-⟩:=q1.out.four;clear hb5;have x0:=q2.out.cell 0;have f0:=q2.out.frozen 0
 simp at x0
 refine hK.out _ _ (fun _=>⟨a0,a1,a2,a3,b0,b1,b2,b3⟩) ?_;clear hK K
 try simp only [Act.put,Zgj,Zfx,Zge]
 refine Zi4 3 [7,8,9] rfl (by kernel_rfl) ⟨a0,a1,a2,a3,b0,b1,b2,b3⟩ ?_
 iterate 3 (refine tk1 (v:=?_) rfl (Or.inl ⟨by kernel_rfl,?_⟩) ?_;rotate_left;(· intro W2 hSw;(try dsimp only at hSw);go_simp;try with_reducible rfl);try simp only [Act.put,Zgj,Zfx,Zge,putG_a,putG_s,putG_z])
 refine tk0 ?_;refine Zu (i:=10) rfl (by kernel_rfl) (by kernel_rfl) (fun K hK=>?_);go_simp;obtain ⟨W6,hW6,hB6,q2',kW,kB,s6⟩:=Zjf 0 hB.out (by omega) q2.out;rw [hW6];refine hK.out _ _ ?_;clear hK K
 try simp only [Act.put,Zgj,Zfx,Zge]
 refine Zk (by kernel_rfl) ?_ _;refine OnlyNormal.normal ?_;have r4:=q2'.cell 0
 simp at r4
 go_wp2_with fail;refine leaves_cons (f:=102) (args:=#[.pointer (some ⟨w.heap.size+1+1,0,none⟩)]) (by simp) (by simp [go_sem]) ?_;refine (Zgi _ _).mono ?_;rintro e u' w'' ⟨rfl,rfl,rfl⟩;refine ⟨.tuple #[.int .i64 R,.int .i64 0],by simp [results,Tryz.results55,go_sem,r4],rfl,hB6⟩
end Go.Proofs.YtigdclhagmnopaaGreat
