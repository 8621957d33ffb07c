/- Package linear: whole. Package linear: Rank. Package -/
import Derived.Deep.LoopGhost
import Derived.Test.YthappeninglakaaGreatZd13
set_option maxRecDepth 100000
set_option maxHeartbeats 16000000
set_option linter.unusedSimpArgs false
set_option linter.unusedVariables false
namespace Go.Proofs.YthappeninglakaaGreat
open Go.RowKit
open Act renaming put→Qa
open List renaming getElem?_eq_getElem→Qb,replicate→Qe,map_append→Qf,getElem?_map→Qg,mem_singleton→Qi,length_map→Qm,take_add_one→Qn,getElem?_replicate→Qo,getElem?_range→Qp,mem_of_getElem?→Qq,range→Qr,take_of_length_le→Qs,map_cons→Qv,getElem?_append_left→Qw,length_take→Qx,range_succ→Qz,map_nil→QA,getElem?_eq_none→QB,map_congr_left→QG,getElem?_append_right→QJ,ext_getElem?→QK,length_set→QN,set_append_right→QQ,getElem_of_mem→QR,set_cons_zero→QT,getElem?_set→QW,getElem_mem→QY,not_mem_nil→QZ,any_eq_true→Ya,take_zero→Ye
open Below renaming refl→Qc
open Nat renaming le_refl→Qd,le_trans→Qj,lt_of_lt_of_le→Qt,zero_add→QD,le_of_lt→QE,lt_of_le_of_lt→QH,lt_irrefl→QI,lt_succ_self→QL,zero_le→QO,sub_self→QS,add_zero→QU,gcd→QV,not_lt_zero→Yb,min_eq_left→Yd
open OnlyNormal renaming normal→Qh
open Option renaming getD_some→Qk,map_some→QC,map_eq_some_iff→QP
open Or renaming inl→Ql
open Int renaming natAbs_natCast→Qu,fdiv→QX,natCast_mul→Yc
open Blk renaming new→Qy
open World renaming cell?_of_block→QF
open Kept renaming refl→QM
attribute [local go_sem] Zh
def MatOZ(tS tF:TypeId)(w:World)(base:Nat)(v:Value)(L:List RZ):Prop:=
 RowS tS w base v (L.map RZ.rs)/\(∀ r ∈ L,(POwn tF w r.g r.q/\r.q.length<=maxLen)/\base<=r.g)/\(L.map RZ.g).Nodup
section
variable{tS tF:TypeId}{w w':World}{base:Nat}{v v':Value}{L:List RZ}
theorem MatOZ.nil(tS tF:TypeId)(w:World)(base:Nat):MatOZ tS tF w base (.slice none 0 0) []:=⟨.inl ⟨rfl,rfl⟩,λr hr=>(by cases hr),List.nodup_nil⟩
theorem MatOZ.kept(h:MatOZ tS tF w base v L)(hb:Below w.heap.size w w'):MatOZ tS tF w' base v L:=⟨h.1.kept hb,λr hr=>⟨⟨(h.2.1 r hr).1.1.below hb,(h.2.1 r hr).1.2⟩,(h.2.1 r hr).2⟩,h.2.2⟩
theorem POwn.grown{g:Nat}{qs:List Int}(h:POwn tF w g qs)(hg:w.grownBy w' v.ownBlock)(hne:v.ownBlock≠some g)(hk:∀ (A:Option Addr) (n c:Nat) (l:List Nat),Lim w A n c l->Lim w' A n c l):POwn tF w' g qs:=by
 obtain⟨es,h1,h2,h3⟩:=h;exact⟨es,(hg.block g h1.lt (λe=>hne (by first|exact e|exact e.symm))).trans h1,λe he=>⟨hk _ _ _ _ (h2 e he).1,(h2 e he).2⟩,h3⟩
theorem MatOZ.snoc(h:MatOZ tS tF w base v L)(hne:tS≠tF){r:RZ}(hr:POwn tF w r.g r.q/\r.q.length<=maxLen)(hbr:base<=r.g)(hnew:∀ s ∈ L,s.g≠r.g)(h1:RowS tS w' base v' (L.map RZ.rs ++ [r.rs]))(hg:w.grownBy w' v.ownBlock)
    (hk:∀ (A:Option Addr) (n c:Nat) (l:List Nat),Lim w A n c l->Lim w' A n c l):MatOZ tS tF w' base v' (L ++ [r]):=by
 have ow:∀ {s:RZ},POwn tF w s.g s.q->v.ownBlock≠some s.g:=λhs=>by obtain⟨es,q1,-,-⟩:=hs;exact h.1.ownType q1 hne
 refine⟨by rw[Qf];exact h1,λs hs=>?_,?_⟩
 ·rcases List.mem_append.1 hs with hs|hs
  ·have:=h.2.1 s hs
   exact⟨⟨this.1.1.grown hg (ow this.1.1) hk,this.1.2⟩,this.2⟩
  ·rw[Qi]at hs
   subst hs;exact⟨⟨hr.1.grown hg (ow hr.1) hk,hr.2⟩,hbr⟩
 ·rw[Qf,List.nodup_append]
  refine⟨h.2.2,by simp,λa ha b hb=>?_⟩;obtain⟨s,hs,rfl⟩:=List.mem_map.1 ha;simp only[Qv,QA,Qi]at hb;rw[hb];exact hnew s hs
theorem MatOZ.mat(h:MatOZ tS tF w base v L)(hne:tS≠tF)(hl:L ≠ []):∃ go cap,v=.slice (some ⟨go,0,none⟩) L.length cap/\L.length<=cap/\cap<=maxLen/\base<=go/\MatZ tS tF w go L/\∀ r ∈ L,base<=r.g:=by
 rcases h.1 with ⟨-,h2⟩|⟨go,sp,rfl,h2,h3,h4⟩;exact absurd (List.map_eq_nil_iff.1 h2) hl
 ·refine⟨go,_,by rw[Qm],by rw[Qm];omega,h3,h2,⟨⟨_,h4⟩,λr hr=>(h.2.1 r hr).1,?_⟩,λr hr=>(h.2.1 r hr).2⟩
  refine List.nodup_cons.2 ⟨λhm=>?_,h.2.2⟩;obtain⟨r,hr,e⟩:=List.mem_map.1 hm;obtain⟨es,q1,-,-⟩:=(h.2.1 r hr).1.1;rw[e]at q1;exact hne (h4.type q1)
end
section
variable{tS tW t':TypeId}{w:World}{base:Nat}{v:Value}{L:List RZ}{xs:List Int}{rs:List RS}
theorem RowS.isSlice(h:RowS tS w base v rs):∃ A n c,v=.slice A n c:=by
 rcases h with ⟨rfl,_⟩|⟨g,sp,rfl,_⟩;exact⟨_,_,_,rfl⟩;exact⟨_,_,_,rfl⟩
theorem RowS.mono{b:Nat}(h:RowS tS w base v rs)(hb:b<=base):RowS tS w b v rs:=by
 rcases h with h|⟨g,sp,h1,h2,h3⟩;exact .inl h;exact .inr ⟨g,sp,h1,Qj hb h2,h3⟩
theorem MatOZ.mono{b:Nat}(h:MatOZ tS tW w base v L)(hb:b<=base):MatOZ tS tW w b v L:=⟨h.1.mono hb,λr hr=>⟨(h.2.1 r hr).1,Qj hb (h.2.1 r hr).2⟩,h.2.2⟩
theorem OwnP.isSlice(h:OwnP tW w base v xs):∃ A n c,v=.slice A n c:=by
 obtain⟨A,c,e,-⟩:=h.poly;exact⟨_,_,_,e⟩
theorem OwnP.mono{b:Nat}(h:OwnP tW w base v xs)(hb:b<=base):OwnP tW w b v xs:=by
 obtain⟨es,h1,h2,h3⟩:=h;refine⟨es,?_,h2,h3⟩;rcases h1 with h|⟨g,sp,h1,h2,h3⟩;exact .inl h;exact .inr ⟨g,sp,h1,Qj hb h2,h3⟩
theorem RowS.far{g:Nat}(h:RowS tS w base v rs)(hg:g<base)(i:Nat)(u:Value):RowS tS (w.setCell ⟨g,i,none⟩ u) base v rs:=by
 rcases h with h|⟨g',sp,h1,h2,h3,h4⟩;exact .inl h;exact .inr ⟨g',sp,h1,h2,h3,h4.far (p:=⟨g,i,none⟩) (by show g'≠g;omega) u⟩
theorem MatOZ.far{g:Nat}{cs:Array Value}(h:MatOZ tS tW w base v L)(hg:g<base)(hb:Blk w g t' cs)(hcs:NoLimb cs)(i:Nat)(u:Value):MatOZ tS tW (w.setCell ⟨g,i,none⟩ u) base v L:=by
 refine⟨h.1.far hg i u,λr hr=>⟨⟨?_,(h.2.1 r hr).1.2⟩,(h.2.1 r hr).2⟩,h.2.2⟩;have f:=(h.2.1 r hr).2;obtain⟨es,q1,q2,q3⟩:=(h.2.1 r hr).1.1;exact⟨es,q1.far (p:=⟨g,i,none⟩) (by show r.g≠g;omega) u,λe he=>⟨(q2 e he).1.set_box hb hcs i u,(q2 e he).2⟩,q3⟩
theorem OwnP.far{g:Nat}{cs:Array Value}(h:OwnP tW w base v xs)(hg:g<base)(hb:Blk w g t' cs)(hcs:NoLimb cs)(i:Nat)(u:Value):OwnP tW (w.setCell ⟨g,i,none⟩ u) base v xs:=by
 obtain⟨es,h1,h2,h3⟩:=h;refine⟨es,?_,λe he=>⟨(h2 e he).1.set_box hb hcs i u,(h2 e he).2⟩,h3⟩;rcases h1 with h|⟨g',sp,h1,h2,h3,h4⟩;exact .inl h;exact .inr ⟨g',sp,h1,h2,h3,h4.far (p:=⟨g,i,none⟩) (by show g'≠g;omega) u⟩
theorem Zk7{x y:Value}(hx:∀ k,x≠limb k)(hy:∀ k,y≠limb k):NoLimb #[x,y]:=λi k=>by
 match i with
 | 0=>simpa using hx k
 | 1=>simpa using hy k
 | i+2=>simp
theorem Ze2{g:Nat}{x0 y0 x y:Value}{base2:Nat}(hb:Blk w g t' #[x0,y0])(h0:∀ k,x0≠limb k)(h1:∀ k,y0≠limb k)(hx:∀ k,x≠limb k)(hM:MatOZ tS tW w base v L)(hg:g<base){v2:Value}(hP:OwnP tW w base2 v2 xs)(hg2:g<base2) :
    Blk ((w.setCell ⟨g,0,none⟩ x).setCell ⟨g,1,none⟩ y) g t' #[x,y]/\MatOZ tS tW ((w.setCell ⟨g,0,none⟩ x).setCell ⟨g,1,none⟩ y) base v L/\OwnP tW ((w.setCell ⟨g,0,none⟩ x).setCell ⟨g,1,none⟩ y) base2 v2 xs:=by
 have e:Blk (w.setCell ⟨g,0,none⟩ x) g t' #[x,y0]:=hb.set_ 0 x;have f:Blk ((w.setCell ⟨g,0,none⟩ x).setCell ⟨g,1,none⟩ y) g t' #[x,y]:=e.set_ 1 y;exact⟨f,(hM.far hg hb (Zk7 h0 h1) 0 x).far hg e (Zk7 hx h1) 1 y,(hP.far hg2 hb (Zk7 h0 h1) 0 x).far hg2 e (Zk7 hx h1) 1 y⟩
end
section
variable{tS tW tG:TypeId}{w w' W0:World}{g3 gd gO base:Nat}{v1 v1' v2 v2':Value}{L:List RZ}{xs q:List Int}{dn:Bool}{dA:Option Addr}{dk dc:Nat}{D:Int}
def EnvW(tS tW tG:TypeId)(w:World)(g3 gd gO base:Nat)(v1 v2:Value)(L:List RZ)(xs:List Int)(dn:Bool)(dA:Option Addr)(dk dc:Nat)(D:Int)(q:List Int):Prop:=
 MatOZ tS tW w base v1 L/\(POwn tW w gO q/\q.length<=maxLen)/\OwnP tW w base v2 xs/\Blk w gd tW #[.bool dn,.slice dA dk dc]/\Wd w dn dA dk dc D/\Blk w g3 tG #[v1,v2]/\(g3<base/\base<=gO)/\(∀ s ∈ L,s.g≠gO)/\v2.ownBlock≠some gO/\(∀ s ∈ L,v2.ownBlock≠some s.g)
theorem EnvW.below(h:EnvW tS tW tG w g3 gd gO base v1 v2 L xs dn dA dk dc D q)(hb:Below w.heap.size w w'):EnvW tS tW tG w' g3 gd gO base v1 v2 L xs dn dA dk dc D q:=by
 obtain⟨h1,h2,h3,h4,h5,h6,h7⟩:=h;exact⟨h1.kept hb,⟨h2.1.below hb,h2.2⟩,h3.kept hb,Zd hb h4,h5.below hb,Zd hb h6,h7⟩
def EnvA(tS tW tG:TypeId)(w:World)(g3 gd base:Nat)(v1 v2 v1':Value)(L:List RZ)(xs:List Int)(dn:Bool)(dA:Option Addr)(dk dc:Nat)(D:Int):Prop:=
 MatOZ tS tW w base v1' L/\OwnP tW w base v2 xs/\Blk w gd tW #[.bool dn,.slice dA dk dc]/\Wd w dn dA dk dc D/\Blk w g3 tG #[v1,v2]/\g3<base/\(∀ s ∈ L,v2.ownBlock≠some s.g)
theorem EnvA.below(h:EnvA tS tW tG w g3 gd base v1 v2 v1' L xs dn dA dk dc D)(hb:Below w.heap.size w w'):EnvA tS tW tG w' g3 gd base v1 v2 v1' L xs dn dA dk dc D:=by
 obtain⟨h1,h3,h4,h5,h6,h7⟩:=h;exact⟨h1.kept hb,h3.kept hb,Zd hb h4,h5.below hb,Zd hb h6,h7⟩
theorem OwnP.grownT(h:OwnP tW w base v2 xs)(hg:w.grownBy w' v1.ownBlock)(hne:∀ g cs,Blk w g tW cs->v1.ownBlock≠some g)(hk:∀ (A:Option Addr) (n c:Nat) (l:List Nat),Lim w A n c l->Lim w' A n c l):OwnP tW w' base v2 xs:=by
 obtain⟨es,h1,h2,h3⟩:=h;refine⟨es,?_,λe he=>⟨hk _ _ _ _ (h2 e he).1,(h2 e he).2⟩,h3⟩;rcases h1 with h|⟨g',sp,h1,h2,h3,h4⟩;exact .inl h
 ·exact .inr ⟨g',sp,h1,h2,h3,(hg.block g' h4.lt (λe=>hne g' _ h4 (by first|exact e|exact e.symm))).trans h4⟩
theorem EnvW.app(h:EnvW tS tW tG w g3 gd gO base v1 v2 L xs dn dA dk dc D q)(t1:tS≠tW)(t2:tS≠tG)(hR:RowS tS w' base v1' (L.map RZ.rs ++ [RZ.rs ⟨gO,q⟩]))(hg:w.grownBy w' v1.ownBlock)(hk:∀ (A:Option Addr) (n c:Nat) (l:List Nat),Lim w A n c l->Lim w' A n c l) :
    EnvA tS tW tG w' g3 gd base v1 v2 v1' (L ++ [⟨gO,q⟩]) xs dn dA dk dc D:=by
 obtain⟨h1,h2,h3,h4,h5,h6,h7,h8,h9,f⟩:=h;refine⟨h1.snoc t1 (r:=⟨gO,q⟩) h2 h7.2 h8 hR hg hk,h3.grownT hg (λg cs hb=>h1.1.ownType hb t1) hk,(hg.block gd h4.lt (λe=>h1.1.ownType h4 t1 (by first|exact e|exact e.symm))).trans h4,h5.of_keep hk,(hg.block g3 h6.lt (λe=>h1.1.ownType h6 t2 (by first|exact e|exact e.symm))).trans h6,h7.1,λs hs=>?_⟩;rcases List.mem_append.1 hs with hs|hs;exact f s hs;rw[Qi]at hs;subst hs;exact h9
theorem RowS.grownP{rs:List RS}(h:RowS tS w base v1 rs)(hg:w.grownBy w' v2.ownBlock)(hne:∀ g cs,Blk w g tS cs->v2.ownBlock≠some g):RowS tS w' base v1 rs:=by
 rcases h with h|⟨g',sp,h1,h2,h3,h4⟩;exact .inl h
 ·exact .inr ⟨g',sp,h1,h2,h3,(hg.block g' h4.lt (λe=>hne g' _ h4 (by first|exact e|exact e.symm))).trans h4⟩
theorem OwnP.ownType{t:TypeId}(h:OwnP tW w base v2 xs){g:Nat}{cs:Array Value}(hb:Blk w g t cs)(hne:tW≠t):v2.ownBlock≠some g:=by
 rintro e;obtain⟨es,h1,-,-⟩:=h;rcases h1 with ⟨rfl,_⟩|⟨g',sp,rfl,_,_,h4⟩;cases e
 ·have:g'=g:=by simpa [Value.ownBlock]using e
  subst this;exact hne (h4.type hb)
theorem EnvA.app(h:EnvA tS tW tG w g3 gd base v1 v2 v1' L xs dn dA dk dc D)(t1:tS≠tW)(hP:OwnP tW w' base v2' (xs ++ [D]))(hg:w.grownBy w' v2.ownBlock)(hk:∀ (A:Option Addr) (n c:Nat) (l:List Nat),Lim w A n c l->Lim w' A n c l)(hw:v2'.ownBlock=v2.ownBlock \/ ∀ k,v2'.ownBlock=some k->w.heap.size<=k) :
    MatOZ tS tW w' base v1' L/\OwnP tW w' base v2' (xs ++ [D])/\Blk w' g3 tG #[v1,v2]/\∀ s ∈ L,v2'.ownBlock≠some s.g:=by
 obtain⟨h1,h3,-,h5,h6,h7,h8⟩:=h;refine⟨⟨h1.1.grownP hg (λg cs hb=>h3.ownType hb (Ne.symm t1)),λs hs=>⟨⟨(h1.2.1 s hs).1.1.grown hg (h8 s hs) hk,(h1.2.1 s hs).1.2⟩,(h1.2.1 s hs).2⟩,h1.2.2⟩,hP,(hg.block g3 h6.lt (λe=>?_)).trans h6,λs hs e=>?_⟩
 ·have:=h3.row_ge g3 (by first|exact e|exact e.symm);omega
 ·rcases hw with hw|hw
  exact h8 s hs (by rw[<- hw];exact e)
  ·have:=hw _ e
   have:=(h1.2.1 s hs).1.1.lt;omega
theorem EnvW.far{t:TypeId}{g:Nat}{cs:Array Value}(h:EnvW tS tW tG w g3 gd gO base v1 v2 L xs dn dA dk dc D q)(t1:tS≠t)(hg:w.grownBy w' v1.ownBlock)(hb:Blk w g t cs):Blk w' g t cs:=
 (hg.block g hb.lt (λe=>h.1.1.ownType hb t1 (by first|exact e|exact e.symm))).trans hb
theorem Zd8{t:TypeId}{g:Nat}{A:Option Addr}{n c:Nat}(h:Blk w g t #[.slice A n c]):Reads w (g+1) 1 (some ⟨g,0,none⟩) 1 (Zak [⟨A,n,c⟩]):=
 ⟨rfl,λ_=>⟨_,rfl,QL _,λj u hu=>by
  rw[Zh,QD,h.cell];simpa [Zak]using hu⟩⟩
theorem Zd4{t:TypeId}{g:Nat}{neg:Bool}{A:Option Addr}{n c:Nat}(l:List Nat)(h:Blk w g t #[.bool neg,.slice A n c]):Reads w (g+1) 2 (some ⟨g,0,none⟩) 1 (Zah [⟨neg,A,n,c,l⟩]):=
 ⟨rfl,λ_=>⟨_,rfl,QL _,λj u hu=>by
  rw[Zh,QD,h.cell];simpa [Zah]using hu⟩⟩
theorem EnvW.cells(h:EnvW tS tW tG w g3 gd gO base v1 v2 L xs dn dA dk dc D q):w.cell? ⟨g3,0,none⟩=some v1/\w.cell? ⟨g3,1,none⟩=some v2:=by
 have:=h.2.2.2.2.2.1;exact⟨by rw[this.cell];rfl,by rw[this.cell];rfl⟩
theorem EnvA.cells(h:EnvA tS tW tG w g3 gd base v1 v2 v1' L xs dn dA dk dc D):w.cell? ⟨g3,0,none⟩=some v1/\w.cell? ⟨g3,1,none⟩=some v2:=by
 have:=h.2.2.2.2.1;exact⟨by rw[this.cell];rfl,by rw[this.cell];rfl⟩
theorem Kept.grownG{G:Nat->Prop}{row:Option Nat}(h:Kept G W0 w)(hg:w.grownBy w' row)(hr:∀ k,row=some k->W0.heap.size<=k):Kept G W0 w':=
 ⟨hg.os.trans h.os,hg.tape.trans h.tape,hg.output.trans h.output,Qj h.size hg.size,λk hk hG=>(hg.block k (Qt hk h.size) (λe=>by have:=hr k (by first|exact e|exact e.symm);omega)).trans (h.block k hk hG)⟩
theorem Kept.of_belowGe{g:Nat}(h:Below g w w'):Kept (λk=>g<=k) w w':=⟨h.os,h.tape,h.output,h.size,λk _ hk=>h.block k (by omega)⟩
end
theorem Zxa:(Tryz.prog.info? 39).map (λi=>(i.zero,i.size,i.bytes))=some (some (.agg #[.bool false,.slice none 0 0]),2,32):=by kernel_rfl
theorem Zwr:(Tryz.prog.info? 150).map (λi=>(i.zero,i.size,i.bytes))=some (some (.slice none 0 0),1,24):=by kernel_rfl
theorem Zjs(a b:Nat):QX (a:Int) (b:Int)=((a/b:Nat):Int):=by rw[Int.fdiv_eq_ediv_of_nonneg _ (by omega)];rfl
theorem Zo9(row:List Rat){j k:Nat}(h:j<k):(row[j]?.getD 0).den<=Zaw row k:=Nat.le_of_dvd (Zd6 _ _) (Zkj row h)
theorem Zog(A:Option Addr)(n c m:Nat)(Q:List (List Rat))(w:World)(h:MFL w A n c Q)(hn9:n<=900)(hm:∀ i,i<n->(Q[i]?.getD []).length=m)(hm0:0<m)(hm9:m<=900)
    (p5:∀ i k,i<n->k<=m->Zaw (Q[i]?.getD []) k<pw 1000) (n7:∀ i j,(Zl Q i j).num.natAbs<pw 1000) :
    Calls Tryz.prog 127 #[.slice A n c] w λe w'=>∃ v vby L,e=.returned (.agg #[v,vby])/\Below w.heap.size w w'/\MatOZ 150 39 w' w.heap.size v L/\L.map RZ.q=Z6 Q /\
     OwnP 39 w' w.heap.size vby ((Qr n).map λi=>((Zc8 Q i:Nat):Int))/\∀ s ∈ L,vby.ownBlock≠some s.g:=by
 obtain⟨iW,hi,j9,j6,h0⟩:=info_parts Zxa;obtain⟨iS,ki,l7,m1,l5⟩:=info_parts Zwr;have hmx:Tryz.prog.follows .mixedOrders=true:=by kernel_rfl
 have c4:(150:TypeId)≠39:=by decide
 have hl:=Za h.1;have M7:=h.2.1;have K0:=h.2.2.1;unfold maxLen at K0;replace hm:=Za hm;replace p5:=Za p5;replace n7:=Za n7;obtain⟨W0,F8,s5,⟨q0,q1⟩,s0⟩:=Zfa w 152 #[.slice none 0 0,.slice none 0 0] 152 #[.slice none 0 0,.slice none 0 0];have J5:=Za h;obtain⟨gR,g9⟩:∃ g,w.heap.size=g:=⟨_,rfl⟩;rw[g9]at q0 q1 s0 s5;obtain⟨g3,u5⟩:∃ g,gR+1=g:=⟨_,rfl⟩;rw[u5]at q1;have L3:Hid (W0.heap.size=g3+1):=Za (by rw[s0];omega);have K9:Hid (gR<g3):=Za (by omega);clear h;replace q0:=Za q0;replace q1:=Za q1;go_enter Tryz.func127,Tryz.ntmps127;go_wp2_with fail;(try rw[F8]);(try rw[g9]);(try rw[u5]);replace g9:=Za g9;replace u5:=Za u5;replace s5:=Za s5;clear F8 s0
 go_loopg [16] n (λk iv wr=>∃ (i:Nat) (v1 v2:Value) (L:List RZ),i+k=n/\iv=.int .i64 i/\Blk wr g3 152 #[v1,v2]/\MatOZ 150 39 wr W0.heap.size v1 L/\Hid (L.map RZ.q=(Q.take i).map Zdw)/\OwnP 39 wr W0.heap.size v2 ((Qr i).map λi=>((Zc8 Q i:Nat):Int))/\Hid (∀ s ∈ L,v2.ownBlock≠some s.g)/\Kept (λk=>k=g3) W0 wr)
 case atStart=>exact⟨0,.slice none 0 0,.slice none 0 0,[],by omega,rfl,q1.out,MatOZ.nil _ _ _ _,Za (by simp),OwnP.nil _ _ _,Za (λs hs=>(by cases hs)),QM _ _⟩
 case round =>
  obtain⟨i,v1,v2,L,N6,rfl,e7,f7,f8,e6,x2,hK⟩:=hrel;have L8:=K9.out;have L4:=L3.out;have i5:=hK.blk q0.out (by omega);have N3:∀ k,k=g3->∃ t cs,Blk W0 k t cs/\NoLimb cs:=λk hk=>⟨_,_,(hk▸q1.out:Blk W0 k 152 #[.slice none 0 0,.slice none 0 0]),λi u=>by match i with|0=>simp|1=>simp|i+2=>simp⟩;cases gk with
  | zero =>
   obtain rfl:i=n:=by omega
   have t1:decide ((i:Int)<(i:Int))=false:=by simp
   have b0:wr.cell? ⟨g3,0,none⟩=some v1:=by rw[e7.cell];rfl
   have b1:wr.cell? ⟨g3,1,none⟩=some v2:=by rw[e7.cell];rfl
   have r0:wr.cell? ⟨gR,0,none⟩=some (.slice none 0 0):=by rw[i5.cell];rfl
   have r1:wr.cell? ⟨gR,1,none⟩=some (.slice none 0 0):=by rw[i5.cell];rfl
   have z0:=i5.frozen 0;have z1:=i5.frozen 1;replace f7:=Za f7;replace e6:=Za e6;obtain⟨a1,a2,a3,rfl⟩:=f7.out.1.isSlice;obtain⟨a4,a5,a6,rfl⟩:=e6.out.isSlice;obtain⟨X,hX⟩:∃ X,(wr.setCell ⟨gR,0,none⟩ (.slice a1 a2 a3)).setCell ⟨gR,1,none⟩ (.slice a4 a5 a6)=X:=⟨_,rfl⟩;have o:=Ze2 (x:=.slice a1 a2 a3) (y:=.slice a4 a5 a6) i5 (λk=>by simp) (λk=>by simp) (λk=>by simp) f7.out (by omega) e6.out (by omega);rw[hX]at o;obtain⟨p1,p2,p3⟩:=o;have y0:X.cell? ⟨gR,0,none⟩=some (.slice a1 a2 a3):=by rw[p1.cell];rfl
   have y1:X.cell? ⟨gR,1,none⟩=some (.slice a4 a5 a6):=by rw[p1.cell];rfl
   have K8:Hid (Below w.heap.size w X):=Za (by
    rw[g9.out]
    have h1:Below gR W0 X:=by
     rw[<- hX];exact(((hK.to_below (B:=gR) (λk hk=>by omega) (by omega)).setCell (p:=⟨gR,0,none⟩) (Qd _) _).setCell (p:=⟨gR,1,none⟩) (Qd _) _)
    exact s5.out.trans h1)
   replace p2:=Za p2;replace p3:=Za p3;clear p1 i5 e7;go_wp2_with fail;(try rw[hX]);refine bodyPost_ret (v:=.agg #[.slice a1 a2 a3,.slice a4 a5 a6]) (by simp[results,Tryz.results127,go_sem,y0,y1]) rfl ?_;have I3:w.heap.size<=W0.heap.size:=by rw[g9.out];omega
   refine⟨_,_,L,rfl,K8.out,p2.out.mono I3,?_,p3.out.mono I3,x2.out⟩;rw[f8.out];unfold Z6;rw[Qs (by rw[hl.out];exact Qd _)]
  | succ j =>
   obtain rfl:j=n-(i+1):=by omega
   have c6:i<n:=by omega
   have t1:decide ((i:Int)<(n:Int))=true:=decide_eq_true (by omega);have bi:(i:Int)<(n:Int):=by omega
   have k9:Below w.heap.size w wr:=by rw[g9.out];exact s5.out.trans (hK.to_below (λk hk=>by omega) (by omega))
   obtain⟨ga,oa,A1,n1,c1,rfl,k0,hF⟩:=J5.out.at_ c6;obtain⟨row,U⟩:∃ X,Q[i]?.getD []=X:=⟨_,rfl⟩;have K3:n1=m:=by rw[<- hF.len];exact hm.out i c6
   subst K3;rw[U]at hF;have I8:=hF.cap;unfold maxLen at I8;have v0:Hid (row.length=n1):=Za hF.len;have e8:Hid (∀ k,k<=n1->Zaw row k<pw 1000):=Za (λk hk=>by rw[<- U];exact p5.out i k c6 hk);have C6:Hid (∀ t:Nat,(row[t]?.getD 0).num.natAbs<pw 1000):=Za (λt=>by rw[<- U];exact n7.out i t);have k1:=Zb k9 k0;replace hF:=Za hF;replace U:=Za U;replace e7:=Za e7;replace f7:=Za f7;replace e6:=Za e6;have I5:Hid (∀ s ∈ L,s.g<wr.heap.size):=Za (λs hs=>(f7.out.2.1 s hs).1.1.lt)
   have G3:Hid (∀ k,v2.ownBlock=some k->k<wr.heap.size):=Za (λk hk=>by
    obtain⟨es,h1,-,-⟩:=e6.out;rcases h1 with ⟨rfl,-⟩|⟨g',sp,rfl,-,-,h4⟩;cases hk
    ·have:g'=k:=by simpa [Value.ownBlock]using hk
     rw[<- this];exact h4.lt)
   clear i5 k0;go_wp2_with fail;refine(Zbq 1 wr (by decide) (by decide)).mono ?_;rintro e w1 ⟨o2,d0,D0,e0,f0,rfl,hN⟩;obtain⟨gd,r7⟩:∃ g,w1.heap.size=g:=⟨_,rfl⟩;obtain⟨V,hV,u8,qd,kW,kB,sV⟩:=Zt 39 #[.bool d0,.slice D0 e0 f0] o2 o2.size;have J8:Hid (Wd V d0 D0 e0 f0 ((Zaw row 0:Nat):Int)):=Za (kW _ _ _ _ _ hN);rw[r7]at qd
   have x1:Hid (g3<gd/\W0.heap.size<=gd):=Za (by
    have h1:=e7.out.lt;have h2:=o2.size;have h3:=hK.size;omega)
   have x3:Hid (Below w.heap.size w V):=Za (k9.trans (u8.mono k9.size));have K5:Hid (gd<V.heap.size):=Za qd.lt;have l0:wr.heap.size<=gd:=by rw[<- r7];exact o2.size
   have K2:Hid (∀ wx,Below gd V wx->MatOZ 150 39 wx W0.heap.size v1 L/\OwnP 39 wx W0.heap.size v2 ((Qr i).map λi=>((Zc8 Q i:Nat):Int))/\Blk wx g3 152 #[v1,v2]/\Kept (λk=>k=g3) W0 wx):=Za (λwx hx=>by
    have hb:Below wr.heap.size wr wx:=u8.trans (hx.mono l0);have K7:Kept (λk=>k=g3) W0 V:=hK.below u8;exact⟨f7.out.kept hb,e6.out.kept hb,e7.out.below hb e7.out.lt,K7.and (Kept.of_belowGe hx) (λk hk h=>by have:=hK.size;omega)⟩)
   have I9:Hid (∀ s ∈ L,s.g<gd):=Za (λs hs=>Qt (I5.out s hs) l0);have E9:Hid (∀ k,v2.ownBlock=some k->k<gd):=Za (λk hk=>Qt (G3.out k hk) l0);have F9:=Za qd;replace r7:=Za r7;clear e7 f7 e6 hK k9 hN qd kW kB sV u8 o2 k1 I5 G3 l0;go_wp2_with fail;(try rw[r7.out]);(try rw[hV]);clear hV;have w7:Hid (w.heap.size<=gd):=Za (by have h1:=x1.out;rw[g9.out];omega);have J4:Hid (∀ k,k=gd->∃ t cs,Blk V k t cs/\NoLimb cs):=Za (λk hk=>⟨_,_,(hk▸F9.out:Blk V k 39 #[.bool d0,.slice D0 e0 f0]),Zgd _ _ _ _⟩)
   go_loopg [23] n1 (λk iv wr=>∃ (t:Nat) (dn:Bool) (dA:Option Addr) (dk dc:Nat),t+k=n1/\iv=.int .i64 t/\Blk wr gd 39 #[.bool dn,.slice dA dk dc]/\Wd wr dn dA dk dc ((Zaw row t:Nat):Int)/\Kept (λk=>k=gd) V wr)
   case atStart=>exact⟨0,d0,D0,e0,f0,by omega,rfl,F9.out,J8.out,QM _ _⟩
   case round =>
    obtain⟨t,dn,dA,dk,dc,N5,rfl,d3,f6,o6⟩:=hrel;have g4:Below w.heap.size w wr:=x3.out.trans (o6.to_below (λk hk=>by rw[hk];exact w7.out) (x3.out.size));cases gk with
    | zero =>
     obtain rfl:t=n1:=by omega
     have t2:decide ((t:Int)<(t:Int))=false:=by simp
     have m0:Hid (Zaw row t=Zc8 Q i):=Za (by unfold Zc8;rw[U.out,v0.out]);have w6:Below gd V wr:=o6.to_below (λk hk=>by omega) (QE K5.out);obtain⟨gO,s4⟩:∃ g,wr.heap.size=g:=⟨_,rfl⟩;obtain⟨Wo,u7⟩:∃ X,wr.alloc (.cells (Zbk (Qe t Zcj)) 39)=X:=⟨_,rfl⟩;have J6:=makeW (P:=Tryz.prog) 150 39 Tryz.underlying150 hi j9 j6 h0 (t:Int) t rfl (by omega);have o3:Below wr.heap.size wr Wo:=by rw[<- u7];exact(Qc _ _).alloc (Qd _) _
     have hO:POwn 39 Wo gO (Qe t 0):=by rw[<- u7,<- s4];exact POwn.new _ _ _
     have w5:Hid (Blk Wo gd 39 #[.bool dn,.slice dA dk dc]):=Za (d3.below o3 d3.lt);have I7:Hid (Wd Wo dn dA dk dc ((Zaw row t:Nat):Int)):=Za (f6.below o3);have E8:Hid (Below gd V Wo):=Za (w6.trans (o3.mono (QE d3.lt)));have x5:Hid (Below w.heap.size w Wo):=Za (g4.trans (o3.mono g4.size));have F4:Hid (gd<gO):=Za (by rw[<- s4];exact d3.lt);replace hO:=Za hO;clear d3 f6 o6 g4 w6 o3;go_wp2_with fail;(try rw[s4]);(try rw[u7]);clear u7 J6;replace s4:=Za s4;have y6:Hid (∀ k,k=gO->∃ t cs,Blk Wo k t cs/\NoLimb cs):=Za (λk hk=>by rw[hk];exact hO.out.box)
     go_loopg [46] t (λk iv wr=>∃ (x:Nat) (q3:List Int),x+k=t/\iv=.int .i64 x/\POwn 39 wr gO q3/\Hid (q3.length=t)/\Hid (∀ y:Nat,q3[y]?.getD 0=if y<x then (row[y]?.getD 0).num*((Zaw row t/(row[y]?.getD 0).den:Nat):Int)else 0)/\Kept (λk=>k=gO) Wo wr)
     case atStart=>exact⟨0,Qe t 0,by omega,rfl,hO.out,Za (by simp),Za (λy=>by rw[if_neg (Yb y),Qo];split <;> rfl),QM _ _⟩
     case round =>
      obtain⟨x,q3,N0,rfl,u9,c0,H9,h7⟩:=hrel;have L1:=F4.out;have q4:Below gd V wr:=E8.out.trans (h7.to_below (λk hk=>by omega) (QE w5.out.lt));have d3:=h7.blk w5.out (by omega);have f6:=h7.wd I7.out y6.out;have g4:Below w.heap.size w wr:=x5.out.trans (h7.to_below (λk hk=>by have:=w7.out;omega) x5.out.size);cases gk with
      | zero =>
       obtain rfl:x=t:=by omega
       have t3:decide ((x:Int)<(x:Int))=false:=by simp
       obtain⟨mM,mP,m3,mK⟩:=K2.out wr q4
       have e4:Hid (q3=Zdw row):=Za (by
        apply QK;intro y;have h1:=H9.out y;by_cases hy:y<x
        ·rw[if_pos hy]at h1
         rw[Qb (by rw[c0.out];exact hy)]at h1 ⊢;unfold Zdw;have I0:y<row.length:=by rw[v0.out];exact hy
         rw[Qg,Qb I0];simp only[Qk,QC]at h1 ⊢;rw[h1,Qb I0,v0.out];rfl
        ·rw[QB (by rw[c0.out];omega),QB (by rw[Zju,v0.out];omega)])
       have D9:EnvW 150 39 152 wr g3 gd gO W0.heap.size v1 v2 L ((Qr i).map λi=>((Zc8 Q i:Nat):Int)) dn dA dk dc ((Zaw row x:Nat):Int) q3:=
        ⟨mM,⟨u9,by rw[c0.out];unfold maxLen;omega⟩,mP,d3,f6,m3,⟨by omega,by have:=x1.out;omega⟩,λs hs e=>by have:=I9.out s hs;omega,λe=>by have:=E9.out _ e;omega,x2.out⟩
       have M6:L.length=i:=by
        have h1:(L.map RZ.q).length=((Q.take i).map Zdw).length:=by rw[f8.out]
        rw[Qm,Qm,Qx,hl.out]at h1;omega
       have d5:(L.map RZ.rs).length+1<=1000:=by rw[Qm];omega
       have d4:((Qr i).map λi=>((Zc8 Q i:Nat):Int)).length+1<=1000:=by rw[Qm,List.length_range];omega
       have e5:(150:TypeId)≠152:=by decide
       replace D9:=Za D9;replace mK:=Za mK;replace c0:=Za c0.out;clear mM mP m3 u9 d3 f6 q4 g4 h7;go_wp2_with fail;obtain⟨X0,u6⟩:∃ X,wr.drew=X:=⟨_,rfl⟩;have t0:Below wr.heap.size wr X0:=by rw[<- u6];exact Zf (Qc _ _) 1
       have hE:=D9.out.below t0;have z9:Kept (λk=>k=g3) W0 X0:=mK.out.below t0;have E2:wr.drew.cell? ⟨g3,0,none⟩=some v1/\wr.drew.cell? ⟨g3,1,none⟩=some v2:=by rw[u6];exact hE.cells
       refine Z0 [11,13] (λwx=>wx.cell? ⟨g3,0,none⟩=some v1/\wx.cell? ⟨g3,1,none⟩=some v2) hmx E2 (λhxs9=>?_);refine Zje 5 [0,1,2,5,6] rfl (by kernel_rfl) E2 ?_
       iterate 5 (refine tk1 (v:=?_) rfl (Ql ⟨by kernel_rfl,?_⟩) ?_;rotate_left;(· intro W2 hSw;(try dsimp only at hSw);go_simp;try with_reducible rfl);try simp only[Qa,Zgy,Zge,Zgs,putG_a,putG_s,putG_z])
       refine tk0 ?_;rw[u6];clear E2 hxs9 t0 u6;have m9:=hE.1.1;have l4:=hE.2.2.1;have T:=hE.2.2.2.2.2.2.1.1;have I4:=hE;clear I4;refine Ze9 (i:=3) (j:=7) rfl rfl (by kernel_rfl) (λK hK=>?_) (λK hK=>?_)
       ·obtain⟨Y1,u2⟩:∃ Y,X0.alloc (.cells #[.slice (some ⟨gO,0,none⟩) x x] 150)=Y:=⟨_,rfl⟩
        obtain⟨u4,n0⟩:∃ g,X0.heap.size=g:=⟨_,rfl⟩;have w0:Below X0.heap.size X0 Y1:=by rw[<- u2];exact(Qc _ _).alloc (Qd _) _
        have o0:Blk Y1 u4 150 #[.slice (some ⟨gO,0,none⟩) x x]:=by rw[<- u2,<- n0];exact Qy _ _ _
        have b8:=hE.below w0;have g8:=z9.below w0;go_simp;(try rw[u2]);(try rw[n0]);refine hK.out _ _ (λ_=>b8.cells) ?_;clear hK K u2 n0
        try simp only[Qa,Zgy,Zge,Zgs]
        refine Ze9 (i:=4) (j:=7) rfl rfl (by kernel_rfl) (λK hK=>?_) (λK hK=>?_)
        ·rw[if_pos (by rfl)]
         refine Zag _ (.tmp 63) (.tmp 65) 149 rfl W0.heap.size 150 iS Tryz.underlying149 ki l7 m1 l5 v1 (L.map RZ.rs) rfl b8.1.1 _ (some ⟨u4,0,none⟩) 1 1 [⟨some ⟨gO,0,none⟩,x,x⟩] rfl (Zd8 o0) rfl d5 g8.size ?_;intro N1 Y4 I6 w8 F2;have g6:=b8.app c4 e5 (by simp only[RZ.rs,c0.out];exact I6) w8 F2;have H2:=g8.grownG w8 (λk hk=>b8.1.1.row_ge k hk);refine hK.out _ _ (λ_=>g6.cells) ?_;clear hK K
         try simp only[Qa,Zgy,Zge,Zgs]
         refine Zgf 1 [10] rfl (by kernel_rfl) g6.cells ?_
         (refine tk1 (v:=?_) rfl (Ql ⟨by kernel_rfl,?_⟩) ?_;rotate_left;(· intro W2 _;go_simp;try with_reducible rfl);try simp only[Qa,Zgy,Zge,Zgs,putG_a,putG_s,putG_z])
         refine tk0 ?_;refine Ze (i:=7) rfl (by kernel_rfl) (λK hK=>?_);obtain⟨J0,K1,-,-⟩:=Blk.two (g6.2.2.1);go_simp;refine hK.out _ _ (λ_=>g6.cells) ?_;clear hK K J0 K1
         try simp only[Qa,Zgy,Zge,Zgs]
         refine Ze (i:=8) rfl (by kernel_rfl) (λK hK=>?_);obtain⟨Y6,t9⟩:∃ Y,Y4.alloc (.cells #[.bool dn,.slice dA dk dc] 39)=Y:=⟨_,rfl⟩;obtain⟨H5,s6⟩:∃ g,Y4.heap.size=g:=⟨_,rfl⟩;have w4:Below Y4.heap.size Y4 Y6:=by rw[<- t9];exact(Qc _ _).alloc (Qd _) _
         have G5:Blk Y6 H5 39 #[.bool dn,.slice dA dk dc]:=by rw[<- t9,<- s6];exact Qy _ _ _
         have d8:=g6.below w4;have w9:=H2.below w4;go_simp;(try rw[t9]);(try rw[s6]);refine hK.out _ _ (λ_=>d8.cells) ?_;clear hK K t9 s6
         try simp only[Qa,Zgy,Zge,Zgs]
         refine Ze (i:=9) rfl (by kernel_rfl) (λK hK=>?_);rw[if_pos (by rfl)];refine Zcg _ (.tmp 68) (.tmp 70) 150 rfl W0.heap.size 39 iW Tryz.underlying150 hi j9 j6 h0 v2 _ rfl d8.2.1 _ (some ⟨H5,0,none⟩) 1 1 [⟨dn,dA,dk,dc,digits ((Zaw row x:Nat):Int).natAbs⟩] rfl (Zd4 _ G5) rfl (by intro e he;rw[Qi]at he;subst he;exact⟨d8.2.2.2.1.2.2,d8.2.2.2.1.ok⟩) d4 w9.size ?_;intro M9 Y9 F7 x6 I1 H4;obtain⟨f1,f2,f3,f4⟩:=d8.app c4 (OwnP.snoc F7 d8.2.2.2.1) x6 I1 H4;have E6:=w9.grownG x6 (λk hk=>d8.2.1.row_ge k hk);refine hK.out _ _ (λ_=>⟨by rw[f3.cell];rfl,by rw[f3.cell];rfl⟩) ?_;clear hK K
         try simp only[Qa,Zgy,Zge,Zgs]
         obtain⟨a1,a2,a3,rfl⟩:=m9.isSlice;obtain⟨a4,a5,a6,rfl⟩:=l4.isSlice;obtain⟨a7,a8,a9,rfl⟩:=f1.1.isSlice;obtain⟨b1,b2,b3,rfl⟩:=f2.isSlice;have o:=Ze2 (x:=.slice a7 a8 a9) (y:=.slice b1 b2 b3) f3 (λk=>by simp) (λk=>by simp) (λk=>by simp) f1 T f2 T;have I:Kept (λk=>k=g3) W0 ((Y9.setCell ⟨g3,0,none⟩ (.slice a7 a8 a9)).setCell ⟨g3,1,none⟩ (.slice b1 b2 b3)):=(E6.set_ (p:=⟨g3,0,none⟩) (.inl rfl) _).set_ (p:=⟨g3,1,none⟩) (.inl rfl) _;have f5:Blk (Y9.setCell ⟨g3,0,none⟩ (.slice a7 a8 a9)) g3 152 #[.slice a7 a8 a9,.slice a4 a5 a6]:=f3.set_ 0 _;have u0:Y9.cell? ⟨g3,0,none⟩=some (.slice a1 a2 a3):=by rw[f3.cell];rfl
         have c9:=f3.frozen 0;have u1:(Y9.setCell ⟨g3,0,none⟩ (.slice a7 a8 a9)).cell? ⟨g3,1,none⟩=some (.slice a4 a5 a6):=by rw[f5.cell];rfl
         have c8:=f5.frozen 1;obtain⟨Z9,C⟩:∃ Z,((Y9.setCell ⟨g3,0,none⟩ (.slice a7 a8 a9)).setCell ⟨g3,1,none⟩ (.slice b1 b2 b3))=Z:=⟨_,rfl⟩;rw[C]at o I;replace o:=Za o;replace I:=Za I;clear f1 f2 f3;refine Zm (i:=11) rfl (by kernel_rfl) (by kernel_rfl) (λK hK=>?_);go_simp;refine hK.out _ _ ?_;clear hK K
         try simp only[Qa,Zgy,Zge,Zgs]
         refine Zg (i:=12) (v:=?v7) rfl (by kernel_rfl) (by kernel_rfl) (by kernel_rfl) (by kernel_rfl) (Ql ⟨by kernel_rfl,?hy7⟩) (λhno=>absurd hno (by decide)) ?rest7
         case hy7=>(intro W2 _;go_simp;try with_reducible rfl)
         try simp only[Qa,Zgy,Zge,Zgs,putG_a,putG_s,putG_z]
         refine Zm (i:=13) rfl (by kernel_rfl) (by kernel_rfl) (λK hK=>?_);go_simp;(try rw[C]);refine hK.out _ _ ?_;clear hK K
         try simp only[Qa,Zgy,Zge,Zgs]
         refine Zj (by kernel_rfl) ?_ _;refine Qh ?_;clear C u0 c9 u1 c8 f5;go_wp2_with fail
         go_roundg (n-(i+1))
         case measure=>omega
         case rel =>
          refine⟨i+1,_,_,L ++ [⟨gO,q3⟩],by omega,by go_num,o.out.1,o.out.2.1,Za ?_,?_,Za f4,I.out⟩
          ·rw[Qf,f8.out,Qn,Qf,Qb (by rw[hl.out];exact c6)]
           congr 1;have h1:=U.out;rw[Qb (by rw[hl.out];exact c6)]at h1;simp only[Qk]at h1;simp[e4.out,h1]
          ·rw[Qz,Qf]
           have h1:=o.out.2.2;rw[m0.out]at h1;exact h1
        ·obtain⟨H3,F0,-,-⟩:=Blk.two (b8.2.2.2.1)
         go_simp;refine hK.out _ _ (λ_=>b8.cells) ?_;clear hK K H3 F0
         try simp only[Qa,Zgy,Zge,Zgs]
         refine Ze9 (i:=4) (j:=8) rfl rfl (by kernel_rfl) (λK hK=>?_) (λK hK=>?_)
         ·rw[if_pos (by rfl)]
          refine Zag _ (.tmp 63) (.tmp 65) 149 rfl W0.heap.size 150 iS Tryz.underlying149 ki l7 m1 l5 v1 (L.map RZ.rs) rfl b8.1.1 _ (some ⟨u4,0,none⟩) 1 1 [⟨some ⟨gO,0,none⟩,x,x⟩] rfl (Zd8 o0) rfl d5 g8.size ?_;intro M4 v4 A6 o8 z5;have j4:=b8.app c4 e5 (by simp only[RZ.rs,c0.out];exact A6) o8 z5;have C1:=g8.grownG o8 (λk hk=>b8.1.1.row_ge k hk);refine hK.out _ _ (λ_=>j4.cells) ?_;clear hK K
          try simp only[Qa,Zgy,Zge,Zgs]
          refine Zgf 1 [10] rfl (by kernel_rfl) j4.cells ?_
          (refine tk1 (v:=?_) rfl (Ql ⟨by kernel_rfl,?_⟩) ?_;rotate_left;(· intro W2 _;go_simp;try with_reducible rfl);try simp only[Qa,Zgy,Zge,Zgs,putG_a,putG_s,putG_z])
          refine tk0 ?_;refine Ze (i:=8) rfl (by kernel_rfl) (λK hK=>?_);obtain⟨H1,k4⟩:∃ Y,v4.alloc (.cells #[.bool dn,.slice dA dk dc] 39)=Y:=⟨_,rfl⟩;obtain⟨x0,i2⟩:∃ g,v4.heap.size=g:=⟨_,rfl⟩;have r4:Below v4.heap.size v4 H1:=by rw[<- k4];exact(Qc _ _).alloc (Qd _) _
          have y2:Blk H1 x0 39 #[.bool dn,.slice dA dk dc]:=by rw[<- k4,<- i2];exact Qy _ _ _
          have c7:=j4.below r4;have n6:=C1.below r4;go_simp;(try rw[k4]);(try rw[i2]);refine hK.out _ _ (λ_=>c7.cells) ?_;clear hK K k4 i2
          try simp only[Qa,Zgy,Zge,Zgs]
          refine Ze (i:=9) rfl (by kernel_rfl) (λK hK=>?_);rw[if_pos (by rfl)];refine Zcg _ (.tmp 68) (.tmp 70) 150 rfl W0.heap.size 39 iW Tryz.underlying150 hi j9 j6 h0 v2 _ rfl c7.2.1 _ (some ⟨x0,0,none⟩) 1 1 [⟨dn,dA,dk,dc,digits ((Zaw row x:Nat):Int).natAbs⟩] rfl (Zd4 _ y2) rfl (by intro e he;rw[Qi]at he;subst he;exact⟨c7.2.2.2.1.2.2,c7.2.2.2.1.ok⟩) d4 n6.size ?_;intro M2 r6 D8 p9 D1 x9;obtain⟨f1,f2,f3,f4⟩:=c7.app c4 (OwnP.snoc D8 c7.2.2.2.1) p9 D1 x9;have B6:=n6.grownG p9 (λk hk=>c7.2.1.row_ge k hk);refine hK.out _ _ (λ_=>⟨by rw[f3.cell];rfl,by rw[f3.cell];rfl⟩) ?_;clear hK K
          try simp only[Qa,Zgy,Zge,Zgs]
          obtain⟨a1,a2,a3,rfl⟩:=m9.isSlice;obtain⟨a4,a5,a6,rfl⟩:=l4.isSlice;obtain⟨a7,a8,a9,rfl⟩:=f1.1.isSlice;obtain⟨b1,b2,b3,rfl⟩:=f2.isSlice;have o:=Ze2 (x:=.slice a7 a8 a9) (y:=.slice b1 b2 b3) f3 (λk=>by simp) (λk=>by simp) (λk=>by simp) f1 T f2 T;have I:Kept (λk=>k=g3) W0 ((r6.setCell ⟨g3,0,none⟩ (.slice a7 a8 a9)).setCell ⟨g3,1,none⟩ (.slice b1 b2 b3)):=(B6.set_ (p:=⟨g3,0,none⟩) (.inl rfl) _).set_ (p:=⟨g3,1,none⟩) (.inl rfl) _;have f5:Blk (r6.setCell ⟨g3,0,none⟩ (.slice a7 a8 a9)) g3 152 #[.slice a7 a8 a9,.slice a4 a5 a6]:=f3.set_ 0 _;have u0:r6.cell? ⟨g3,0,none⟩=some (.slice a1 a2 a3):=by rw[f3.cell];rfl
          have c9:=f3.frozen 0;have u1:(r6.setCell ⟨g3,0,none⟩ (.slice a7 a8 a9)).cell? ⟨g3,1,none⟩=some (.slice a4 a5 a6):=by rw[f5.cell];rfl
          have c8:=f5.frozen 1;obtain⟨Z9,C⟩:∃ Z,((r6.setCell ⟨g3,0,none⟩ (.slice a7 a8 a9)).setCell ⟨g3,1,none⟩ (.slice b1 b2 b3))=Z:=⟨_,rfl⟩;rw[C]at o I;replace o:=Za o;replace I:=Za I;clear f1 f2 f3;refine Zm (i:=11) rfl (by kernel_rfl) (by kernel_rfl) (λK hK=>?_);go_simp;refine hK.out _ _ ?_;clear hK K
          try simp only[Qa,Zgy,Zge,Zgs]
          refine Zg (i:=12) (v:=?v9) rfl (by kernel_rfl) (by kernel_rfl) (by kernel_rfl) (by kernel_rfl) (Ql ⟨by kernel_rfl,?hy9⟩) (λhno=>absurd hno (by decide)) ?rest9
          case hy9=>(intro W2 _;go_simp;try with_reducible rfl)
          try simp only[Qa,Zgy,Zge,Zgs,putG_a,putG_s,putG_z]
          refine Zm (i:=13) rfl (by kernel_rfl) (by kernel_rfl) (λK hK=>?_);go_simp;(try rw[C]);refine hK.out _ _ ?_;clear hK K
          try simp only[Qa,Zgy,Zge,Zgs]
          refine Zj (by kernel_rfl) ?_ _;refine Qh ?_;clear C u0 c9 u1 c8 f5;go_wp2_with fail
          go_roundg (n-(i+1))
          case measure=>omega
          case rel =>
           refine⟨i+1,_,_,L ++ [⟨gO,q3⟩],by omega,by go_num,o.out.1,o.out.2.1,Za ?_,?_,Za f4,I.out⟩
           ·rw[Qf,f8.out,Qn,Qf,Qb (by rw[hl.out];exact c6)]
            congr 1;have h1:=U.out;rw[Qb (by rw[hl.out];exact c6)]at h1;simp only[Qk]at h1;simp[e4.out,h1]
           ·rw[Qz,Qf]
            have h1:=o.out.2.2;rw[m0.out]at h1;exact h1
         ·obtain⟨H6,l1⟩:∃ Y,Y1.alloc (.cells #[.bool dn,.slice dA dk dc] 39)=Y:=⟨_,rfl⟩
          obtain⟨w3,h5⟩:∃ g,Y1.heap.size=g:=⟨_,rfl⟩;have h9:Below Y1.heap.size Y1 H6:=by rw[<- l1];exact(Qc _ _).alloc (Qd _) _
          have D7:Blk H6 w3 39 #[.bool dn,.slice dA dk dc]:=by rw[<- l1,<- h5];exact Qy _ _ _
          have d7:=b8.below h9;have q7:=g8.below h9;have p8:=Zd h9 o0;go_simp;(try rw[l1]);(try rw[h5]);refine hK.out _ _ (λ_=>d7.cells) ?_;clear hK K l1 h5
          try simp only[Qa,Zgy,Zge,Zgs]
          refine Ze (i:=4) rfl (by kernel_rfl) (λK hK=>?_);rw[if_pos (by rfl)];refine Zag _ (.tmp 63) (.tmp 65) 149 rfl W0.heap.size 150 iS Tryz.underlying149 ki l7 m1 l5 v1 (L.map RZ.rs) rfl d7.1.1 _ (some ⟨u4,0,none⟩) 1 1 [⟨some ⟨gO,0,none⟩,x,x⟩] rfl (Zd8 p8) rfl d5 q7.size ?_;intro L9 N7 C8 i3 A7;have b4:=d7.app c4 e5 (by simp only[RZ.rs,c0.out];exact C8) i3 A7;have r8:=q7.grownG i3 (λk hk=>d7.1.1.row_ge k hk);have l8:=d7.far c4 i3 D7;refine hK.out _ _ (λ_=>b4.cells) ?_;clear hK K
          try simp only[Qa,Zgy,Zge,Zgs]
          refine Zgf 1 [10] rfl (by kernel_rfl) b4.cells ?_
          (refine tk1 (v:=?_) rfl (Ql ⟨by kernel_rfl,?_⟩) ?_;rotate_left;(· intro W2 _;go_simp;try with_reducible rfl);try simp only[Qa,Zgy,Zge,Zgs,putG_a,putG_s,putG_z])
          refine tk0 ?_;refine Ze (i:=9) rfl (by kernel_rfl) (λK hK=>?_);rw[if_pos (by rfl)];refine Zcg _ (.tmp 68) (.tmp 70) 150 rfl W0.heap.size 39 iW Tryz.underlying150 hi j9 j6 h0 v2 _ rfl b4.2.1 _ (some ⟨w3,0,none⟩) 1 1 [⟨dn,dA,dk,dc,digits ((Zaw row x:Nat):Int).natAbs⟩] rfl (Zd4 _ l8) rfl (by intro e he;rw[Qi]at he;subst he;exact⟨b4.2.2.2.1.2.2,b4.2.2.2.1.ok⟩) d4 r8.size ?_;intro L5 q6 E4 p6 C5 A9;obtain⟨f1,f2,f3,f4⟩:=b4.app c4 (OwnP.snoc E4 b4.2.2.2.1) p6 C5 A9;have B3:=r8.grownG p6 (λk hk=>b4.2.1.row_ge k hk);refine hK.out _ _ (λ_=>⟨by rw[f3.cell];rfl,by rw[f3.cell];rfl⟩) ?_;clear hK K
          try simp only[Qa,Zgy,Zge,Zgs]
          obtain⟨a1,a2,a3,rfl⟩:=m9.isSlice;obtain⟨a4,a5,a6,rfl⟩:=l4.isSlice;obtain⟨a7,a8,a9,rfl⟩:=f1.1.isSlice;obtain⟨b1,b2,b3,rfl⟩:=f2.isSlice;have o:=Ze2 (x:=.slice a7 a8 a9) (y:=.slice b1 b2 b3) f3 (λk=>by simp) (λk=>by simp) (λk=>by simp) f1 T f2 T;have I:Kept (λk=>k=g3) W0 ((q6.setCell ⟨g3,0,none⟩ (.slice a7 a8 a9)).setCell ⟨g3,1,none⟩ (.slice b1 b2 b3)):=(B3.set_ (p:=⟨g3,0,none⟩) (.inl rfl) _).set_ (p:=⟨g3,1,none⟩) (.inl rfl) _;have f5:Blk (q6.setCell ⟨g3,0,none⟩ (.slice a7 a8 a9)) g3 152 #[.slice a7 a8 a9,.slice a4 a5 a6]:=f3.set_ 0 _;have u0:q6.cell? ⟨g3,0,none⟩=some (.slice a1 a2 a3):=by rw[f3.cell];rfl
          have c9:=f3.frozen 0;have u1:(q6.setCell ⟨g3,0,none⟩ (.slice a7 a8 a9)).cell? ⟨g3,1,none⟩=some (.slice a4 a5 a6):=by rw[f5.cell];rfl
          have c8:=f5.frozen 1;obtain⟨Z9,C⟩:∃ Z,((q6.setCell ⟨g3,0,none⟩ (.slice a7 a8 a9)).setCell ⟨g3,1,none⟩ (.slice b1 b2 b3))=Z:=⟨_,rfl⟩;rw[C]at o I;replace o:=Za o;replace I:=Za I;clear f1 f2 f3;refine Zm (i:=11) rfl (by kernel_rfl) (by kernel_rfl) (λK hK=>?_);go_simp;refine hK.out _ _ ?_;clear hK K
          try simp only[Qa,Zgy,Zge,Zgs]
          refine Zg (i:=12) (v:=?v11) rfl (by kernel_rfl) (by kernel_rfl) (by kernel_rfl) (by kernel_rfl) (Ql ⟨by kernel_rfl,?hy11⟩) (λhno=>absurd hno (by decide)) ?rest11
          case hy11=>(intro W2 _;go_simp;try with_reducible rfl)
          try simp only[Qa,Zgy,Zge,Zgs,putG_a,putG_s,putG_z]
          refine Zm (i:=13) rfl (by kernel_rfl) (by kernel_rfl) (λK hK=>?_);go_simp;(try rw[C]);refine hK.out _ _ ?_;clear hK K
          try simp only[Qa,Zgy,Zge,Zgs]
          refine Zj (by kernel_rfl) ?_ _;refine Qh ?_;clear C u0 c9 u1 c8 f5;go_wp2_with fail
          go_roundg (n-(i+1))
          case measure=>omega
          case rel =>
           refine⟨i+1,_,_,L ++ [⟨gO,q3⟩],by omega,by go_num,o.out.1,o.out.2.1,Za ?_,?_,Za f4,I.out⟩
           ·rw[Qf,f8.out,Qn,Qf,Qb (by rw[hl.out];exact c6)]
            congr 1;have h1:=U.out;rw[Qb (by rw[hl.out];exact c6)]at h1;simp only[Qk]at h1;simp[e4.out,h1]
           ·rw[Qz,Qf]
            have h1:=o.out.2.2;rw[m0.out]at h1;exact h1
       ·obtain⟨E7,G2,-,-⟩:=Blk.two (hE.2.2.2.1)
        go_simp;refine hK.out _ _ (λ_=>hE.cells) ?_;clear hK K E7 G2
        try simp only[Qa,Zgy,Zge,Zgs]
        refine Ze9 (i:=3) (j:=8) rfl rfl (by kernel_rfl) (λK hK=>?_) (λK hK=>?_)
        ·obtain⟨l6,k6⟩:∃ Y,X0.alloc (.cells #[.slice (some ⟨gO,0,none⟩) x x] 150)=Y:=⟨_,rfl⟩
         obtain⟨n9,j3⟩:∃ g,X0.heap.size=g:=⟨_,rfl⟩;have t8:Below X0.heap.size X0 l6:=by rw[<- k6];exact(Qc _ _).alloc (Qd _) _
         have p4:Blk l6 n9 150 #[.slice (some ⟨gO,0,none⟩) x x]:=by rw[<- k6,<- j3];exact Qy _ _ _
         have e1:=hE.below t8;have j1:=z9.below t8;go_simp;(try rw[k6]);(try rw[j3]);refine hK.out _ _ (λ_=>e1.cells) ?_;clear hK K k6 j3
         try simp only[Qa,Zgy,Zge,Zgs]
         refine Ze9 (i:=4) (j:=8) rfl rfl (by kernel_rfl) (λK hK=>?_) (λK hK=>?_)
         ·rw[if_pos (by rfl)]
          refine Zag _ (.tmp 63) (.tmp 65) 149 rfl W0.heap.size 150 iS Tryz.underlying149 ki l7 m1 l5 v1 (L.map RZ.rs) rfl e1.1.1 _ (some ⟨n9,0,none⟩) 1 1 [⟨some ⟨gO,0,none⟩,x,x⟩] rfl (Zd8 p4) rfl d5 j1.size ?_;intro M0 u3 C2 n4 y5;have j2:=e1.app c4 e5 (by simp only[RZ.rs,c0.out];exact C2) n4 y5;have z3:=j1.grownG n4 (λk hk=>e1.1.1.row_ge k hk);refine hK.out _ _ (λ_=>j2.cells) ?_;clear hK K
          try simp only[Qa,Zgy,Zge,Zgs]
          refine Zgf 1 [10] rfl (by kernel_rfl) j2.cells ?_
          (refine tk1 (v:=?_) rfl (Ql ⟨by kernel_rfl,?_⟩) ?_;rotate_left;(· intro W2 _;go_simp;try with_reducible rfl);try simp only[Qa,Zgy,Zge,Zgs,putG_a,putG_s,putG_z])
          refine tk0 ?_;refine Ze (i:=8) rfl (by kernel_rfl) (λK hK=>?_);obtain⟨G1,k7⟩:∃ Y,u3.alloc (.cells #[.bool dn,.slice dA dk dc] 39)=Y:=⟨_,rfl⟩;obtain⟨x7,i8⟩:∃ g,u3.heap.size=g:=⟨_,rfl⟩;have s8:Below u3.heap.size u3 G1:=by rw[<- k7];exact(Qc _ _).alloc (Qd _) _
          have B5:Blk G1 x7 39 #[.bool dn,.slice dA dk dc]:=by rw[<- k7,<- i8];exact Qy _ _ _
          have b9:=j2.below s8;have t5:=z3.below s8;go_simp;(try rw[k7]);(try rw[i8]);refine hK.out _ _ (λ_=>b9.cells) ?_;clear hK K k7 i8
          try simp only[Qa,Zgy,Zge,Zgs]
          refine Ze (i:=9) rfl (by kernel_rfl) (λK hK=>?_);rw[if_pos (by rfl)];refine Zcg _ (.tmp 68) (.tmp 70) 150 rfl W0.heap.size 39 iW Tryz.underlying150 hi j9 j6 h0 v2 _ rfl b9.2.1 _ (some ⟨x7,0,none⟩) 1 1 [⟨dn,dA,dk,dc,digits ((Zaw row x:Nat):Int).natAbs⟩] rfl (Zd4 _ B5) rfl (by intro e he;rw[Qi]at he;subst he;exact⟨b9.2.2.2.1.2.2,b9.2.2.2.1.ok⟩) d4 t5.size ?_;intro L6 o7 D5 s9 E5 y7;obtain⟨f1,f2,f3,f4⟩:=b9.app c4 (OwnP.snoc D5 b9.2.2.2.1) s9 E5 y7;have C3:=t5.grownG s9 (λk hk=>b9.2.1.row_ge k hk);refine hK.out _ _ (λ_=>⟨by rw[f3.cell];rfl,by rw[f3.cell];rfl⟩) ?_;clear hK K
          try simp only[Qa,Zgy,Zge,Zgs]
          obtain⟨a1,a2,a3,rfl⟩:=m9.isSlice;obtain⟨a4,a5,a6,rfl⟩:=l4.isSlice;obtain⟨a7,a8,a9,rfl⟩:=f1.1.isSlice;obtain⟨b1,b2,b3,rfl⟩:=f2.isSlice;have o:=Ze2 (x:=.slice a7 a8 a9) (y:=.slice b1 b2 b3) f3 (λk=>by simp) (λk=>by simp) (λk=>by simp) f1 T f2 T;have I:Kept (λk=>k=g3) W0 ((o7.setCell ⟨g3,0,none⟩ (.slice a7 a8 a9)).setCell ⟨g3,1,none⟩ (.slice b1 b2 b3)):=(C3.set_ (p:=⟨g3,0,none⟩) (.inl rfl) _).set_ (p:=⟨g3,1,none⟩) (.inl rfl) _;have f5:Blk (o7.setCell ⟨g3,0,none⟩ (.slice a7 a8 a9)) g3 152 #[.slice a7 a8 a9,.slice a4 a5 a6]:=f3.set_ 0 _;have u0:o7.cell? ⟨g3,0,none⟩=some (.slice a1 a2 a3):=by rw[f3.cell];rfl
          have c9:=f3.frozen 0;have u1:(o7.setCell ⟨g3,0,none⟩ (.slice a7 a8 a9)).cell? ⟨g3,1,none⟩=some (.slice a4 a5 a6):=by rw[f5.cell];rfl
          have c8:=f5.frozen 1;obtain⟨Z9,C⟩:∃ Z,((o7.setCell ⟨g3,0,none⟩ (.slice a7 a8 a9)).setCell ⟨g3,1,none⟩ (.slice b1 b2 b3))=Z:=⟨_,rfl⟩;rw[C]at o I;replace o:=Za o;replace I:=Za I;clear f1 f2 f3;refine Zm (i:=11) rfl (by kernel_rfl) (by kernel_rfl) (λK hK=>?_);go_simp;refine hK.out _ _ ?_;clear hK K
          try simp only[Qa,Zgy,Zge,Zgs]
          refine Zg (i:=12) (v:=?v13) rfl (by kernel_rfl) (by kernel_rfl) (by kernel_rfl) (by kernel_rfl) (Ql ⟨by kernel_rfl,?hy13⟩) (λhno=>absurd hno (by decide)) ?rest13
          case hy13=>(intro W2 _;go_simp;try with_reducible rfl)
          try simp only[Qa,Zgy,Zge,Zgs,putG_a,putG_s,putG_z]
          refine Zm (i:=13) rfl (by kernel_rfl) (by kernel_rfl) (λK hK=>?_);go_simp;(try rw[C]);refine hK.out _ _ ?_;clear hK K
          try simp only[Qa,Zgy,Zge,Zgs]
          refine Zj (by kernel_rfl) ?_ _;refine Qh ?_;clear C u0 c9 u1 c8 f5;go_wp2_with fail
          go_roundg (n-(i+1))
          case measure=>omega
          case rel =>
           refine⟨i+1,_,_,L ++ [⟨gO,q3⟩],by omega,by go_num,o.out.1,o.out.2.1,Za ?_,?_,Za f4,I.out⟩
           ·rw[Qf,f8.out,Qn,Qf,Qb (by rw[hl.out];exact c6)]
            congr 1;have h1:=U.out;rw[Qb (by rw[hl.out];exact c6)]at h1;simp only[Qk]at h1;simp[e4.out,h1]
           ·rw[Qz,Qf]
            have h1:=o.out.2.2;rw[m0.out]at h1;exact h1
         ·obtain⟨G9,k8⟩:∃ Y,l6.alloc (.cells #[.bool dn,.slice dA dk dc] 39)=Y:=⟨_,rfl⟩
          obtain⟨x4,i6⟩:∃ g,l6.heap.size=g:=⟨_,rfl⟩;have h6:Below l6.heap.size l6 G9:=by rw[<- k8];exact(Qc _ _).alloc (Qd _) _
          have D3:Blk G9 x4 39 #[.bool dn,.slice dA dk dc]:=by rw[<- k8,<- i6];exact Qy _ _ _
          have e2:=e1.below h6;have o9:=j1.below h6;have m8:=Zd h6 p4;go_simp;(try rw[k8]);(try rw[i6]);refine hK.out _ _ (λ_=>e2.cells) ?_;clear hK K k8 i6
          try simp only[Qa,Zgy,Zge,Zgs]
          refine Ze (i:=4) rfl (by kernel_rfl) (λK hK=>?_);rw[if_pos (by rfl)];refine Zag _ (.tmp 63) (.tmp 65) 149 rfl W0.heap.size 150 iS Tryz.underlying149 ki l7 m1 l5 v1 (L.map RZ.rs) rfl e2.1.1 _ (some ⟨n9,0,none⟩) 1 1 [⟨some ⟨gO,0,none⟩,x,x⟩] rfl (Zd8 m8) rfl d5 o9.size ?_;intro L7 M8 D6 j5 y8;have b6:=e2.app c4 e5 (by simp only[RZ.rs,c0.out];exact D6) j5 y8;have t7:=o9.grownG j5 (λk hk=>e2.1.1.row_ge k hk);have l9:=e2.far c4 j5 D3;refine hK.out _ _ (λ_=>b6.cells) ?_;clear hK K
          try simp only[Qa,Zgy,Zge,Zgs]
          refine Zgf 1 [10] rfl (by kernel_rfl) b6.cells ?_
          (refine tk1 (v:=?_) rfl (Ql ⟨by kernel_rfl,?_⟩) ?_;rotate_left;(· intro W2 _;go_simp;try with_reducible rfl);try simp only[Qa,Zgy,Zge,Zgs,putG_a,putG_s,putG_z])
          refine tk0 ?_;refine Ze (i:=9) rfl (by kernel_rfl) (λK hK=>?_);rw[if_pos (by rfl)];refine Zcg _ (.tmp 68) (.tmp 70) 150 rfl W0.heap.size 39 iW Tryz.underlying150 hi j9 j6 h0 v2 _ rfl b6.2.1 _ (some ⟨x4,0,none⟩) 1 1 [⟨dn,dA,dk,dc,digits ((Zaw row x:Nat):Int).natAbs⟩] rfl (Zd4 _ l9) rfl (by intro e he;rw[Qi]at he;subst he;exact⟨b6.2.2.2.1.2.2,b6.2.2.2.1.ok⟩) d4 t7.size ?_;intro M1 q2 C4 r3 E0 y4;obtain⟨f1,f2,f3,f4⟩:=b6.app c4 (OwnP.snoc C4 b6.2.2.2.1) r3 E0 y4;have y9:=t7.grownG r3 (λk hk=>b6.2.1.row_ge k hk);refine hK.out _ _ (λ_=>⟨by rw[f3.cell];rfl,by rw[f3.cell];rfl⟩) ?_;clear hK K
          try simp only[Qa,Zgy,Zge,Zgs]
          obtain⟨a1,a2,a3,rfl⟩:=m9.isSlice;obtain⟨a4,a5,a6,rfl⟩:=l4.isSlice;obtain⟨a7,a8,a9,rfl⟩:=f1.1.isSlice;obtain⟨b1,b2,b3,rfl⟩:=f2.isSlice;have o:=Ze2 (x:=.slice a7 a8 a9) (y:=.slice b1 b2 b3) f3 (λk=>by simp) (λk=>by simp) (λk=>by simp) f1 T f2 T;have I:Kept (λk=>k=g3) W0 ((q2.setCell ⟨g3,0,none⟩ (.slice a7 a8 a9)).setCell ⟨g3,1,none⟩ (.slice b1 b2 b3)):=(y9.set_ (p:=⟨g3,0,none⟩) (.inl rfl) _).set_ (p:=⟨g3,1,none⟩) (.inl rfl) _;have f5:Blk (q2.setCell ⟨g3,0,none⟩ (.slice a7 a8 a9)) g3 152 #[.slice a7 a8 a9,.slice a4 a5 a6]:=f3.set_ 0 _;have u0:q2.cell? ⟨g3,0,none⟩=some (.slice a1 a2 a3):=by rw[f3.cell];rfl
          have c9:=f3.frozen 0;have u1:(q2.setCell ⟨g3,0,none⟩ (.slice a7 a8 a9)).cell? ⟨g3,1,none⟩=some (.slice a4 a5 a6):=by rw[f5.cell];rfl
          have c8:=f5.frozen 1;obtain⟨Z9,C⟩:∃ Z,((q2.setCell ⟨g3,0,none⟩ (.slice a7 a8 a9)).setCell ⟨g3,1,none⟩ (.slice b1 b2 b3))=Z:=⟨_,rfl⟩;rw[C]at o I;replace o:=Za o;replace I:=Za I;clear f1 f2 f3;refine Zm (i:=11) rfl (by kernel_rfl) (by kernel_rfl) (λK hK=>?_);go_simp;refine hK.out _ _ ?_;clear hK K
          try simp only[Qa,Zgy,Zge,Zgs]
          refine Zg (i:=12) (v:=?v15) rfl (by kernel_rfl) (by kernel_rfl) (by kernel_rfl) (by kernel_rfl) (Ql ⟨by kernel_rfl,?hy15⟩) (λhno=>absurd hno (by decide)) ?rest15
          case hy15=>(intro W2 _;go_simp;try with_reducible rfl)
          try simp only[Qa,Zgy,Zge,Zgs,putG_a,putG_s,putG_z]
          refine Zm (i:=13) rfl (by kernel_rfl) (by kernel_rfl) (λK hK=>?_);go_simp;(try rw[C]);refine hK.out _ _ ?_;clear hK K
          try simp only[Qa,Zgy,Zge,Zgs]
          refine Zj (by kernel_rfl) ?_ _;refine Qh ?_;clear C u0 c9 u1 c8 f5;go_wp2_with fail
          go_roundg (n-(i+1))
          case measure=>omega
          case rel =>
           refine⟨i+1,_,_,L ++ [⟨gO,q3⟩],by omega,by go_num,o.out.1,o.out.2.1,Za ?_,?_,Za f4,I.out⟩
           ·rw[Qf,f8.out,Qn,Qf,Qb (by rw[hl.out];exact c6)]
            congr 1;have h1:=U.out;rw[Qb (by rw[hl.out];exact c6)]at h1;simp only[Qk]at h1;simp[e4.out,h1]
           ·rw[Qz,Qf]
            have h1:=o.out.2.2;rw[m0.out]at h1;exact h1
        ·obtain⟨m5,l2⟩:∃ Y,X0.alloc (.cells #[.bool dn,.slice dA dk dc] 39)=Y:=⟨_,rfl⟩
         obtain⟨v6,h8⟩:∃ g,X0.heap.size=g:=⟨_,rfl⟩;have t4:Below X0.heap.size X0 m5:=by rw[<- l2];exact(Qc _ _).alloc (Qd _) _
         have A0:Blk m5 v6 39 #[.bool dn,.slice dA dk dc]:=by rw[<- l2,<- h8];exact Qy _ _ _
         have n8:=hE.below t4;have z7:=z9.below t4;go_simp;(try rw[l2]);(try rw[h8]);refine hK.out _ _ (λ_=>n8.cells) ?_;clear hK K l2 h8
         try simp only[Qa,Zgy,Zge,Zgs]
         refine Ze (i:=3) rfl (by kernel_rfl) (λK hK=>?_);obtain⟨I2,k2⟩:∃ Y,m5.alloc (.cells #[.slice (some ⟨gO,0,none⟩) x x] 150)=Y:=⟨_,rfl⟩;obtain⟨v8,i4⟩:∃ g,m5.heap.size=g:=⟨_,rfl⟩;have i1:Below m5.heap.size m5 I2:=by rw[<- k2];exact(Qc _ _).alloc (Qd _) _
         have z6:Blk I2 v8 150 #[.slice (some ⟨gO,0,none⟩) x x]:=by rw[<- k2,<- i4];exact Qy _ _ _
         have d9:=n8.below i1;have r5:=z7.below i1;have m6:=Zd i1 A0;go_simp;(try rw[k2]);(try rw[i4]);refine hK.out _ _ (λ_=>d9.cells) ?_;clear hK K k2 i4
         try simp only[Qa,Zgy,Zge,Zgs]
         refine Ze (i:=4) rfl (by kernel_rfl) (λK hK=>?_);rw[if_pos (by rfl)];refine Zag _ (.tmp 63) (.tmp 65) 149 rfl W0.heap.size 150 iS Tryz.underlying149 ki l7 m1 l5 v1 (L.map RZ.rs) rfl d9.1.1 _ (some ⟨v8,0,none⟩) 1 1 [⟨some ⟨gO,0,none⟩,x,x⟩] rfl (Zd8 z6) rfl d5 r5.size ?_;intro M5 N4 z8 i7 y3;have a0:=d9.app c4 e5 (by simp only[RZ.rs,c0.out];exact z8) i7 y3;have r2:=r5.grownG i7 (λk hk=>d9.1.1.row_ge k hk);have e9:=d9.far c4 i7 m6;refine hK.out _ _ (λ_=>a0.cells) ?_;clear hK K
         try simp only[Qa,Zgy,Zge,Zgs]
         refine Zgf 1 [10] rfl (by kernel_rfl) a0.cells ?_
         (refine tk1 (v:=?_) rfl (Ql ⟨by kernel_rfl,?_⟩) ?_;rotate_left;(· intro W2 _;go_simp;try with_reducible rfl);try simp only[Qa,Zgy,Zge,Zgs,putG_a,putG_s,putG_z])
         refine tk0 ?_;refine Ze (i:=9) rfl (by kernel_rfl) (λK hK=>?_);rw[if_pos (by rfl)];refine Zcg _ (.tmp 68) (.tmp 70) 150 rfl W0.heap.size 39 iW Tryz.underlying150 hi j9 j6 h0 v2 _ rfl a0.2.1 _ (some ⟨v6,0,none⟩) 1 1 [⟨dn,dA,dk,dc,digits ((Zaw row x:Nat):Int).natAbs⟩] rfl (Zd4 _ e9) rfl (by intro e he;rw[Qi]at he;subst he;exact⟨a0.2.2.2.1.2.2,a0.2.2.2.1.ok⟩) d4 r2.size ?_;intro M3 o5 B8 s7 C7 E1;obtain⟨f1,f2,f3,f4⟩:=a0.app c4 (OwnP.snoc B8 a0.2.2.2.1) s7 C7 E1;have D2:=r2.grownG s7 (λk hk=>a0.2.1.row_ge k hk);refine hK.out _ _ (λ_=>⟨by rw[f3.cell];rfl,by rw[f3.cell];rfl⟩) ?_;clear hK K
         try simp only[Qa,Zgy,Zge,Zgs]
         obtain⟨a1,a2,a3,rfl⟩:=m9.isSlice;obtain⟨a4,a5,a6,rfl⟩:=l4.isSlice;obtain⟨a7,a8,a9,rfl⟩:=f1.1.isSlice;obtain⟨b1,b2,b3,rfl⟩:=f2.isSlice;have o:=Ze2 (x:=.slice a7 a8 a9) (y:=.slice b1 b2 b3) f3 (λk=>by simp) (λk=>by simp) (λk=>by simp) f1 T f2 T;have I:Kept (λk=>k=g3) W0 ((o5.setCell ⟨g3,0,none⟩ (.slice a7 a8 a9)).setCell ⟨g3,1,none⟩ (.slice b1 b2 b3)):=(D2.set_ (p:=⟨g3,0,none⟩) (.inl rfl) _).set_ (p:=⟨g3,1,none⟩) (.inl rfl) _;have f5:Blk (o5.setCell ⟨g3,0,none⟩ (.slice a7 a8 a9)) g3 152 #[.slice a7 a8 a9,.slice a4 a5 a6]:=f3.set_ 0 _;have u0:o5.cell? ⟨g3,0,none⟩=some (.slice a1 a2 a3):=by rw[f3.cell];rfl
         have c9:=f3.frozen 0;have u1:(o5.setCell ⟨g3,0,none⟩ (.slice a7 a8 a9)).cell? ⟨g3,1,none⟩=some (.slice a4 a5 a6):=by rw[f5.cell];rfl
         have c8:=f5.frozen 1;obtain⟨Z9,C⟩:∃ Z,((o5.setCell ⟨g3,0,none⟩ (.slice a7 a8 a9)).setCell ⟨g3,1,none⟩ (.slice b1 b2 b3))=Z:=⟨_,rfl⟩;rw[C]at o I;replace o:=Za o;replace I:=Za I;clear f1 f2 f3;refine Zm (i:=11) rfl (by kernel_rfl) (by kernel_rfl) (λK hK=>?_);go_simp;refine hK.out _ _ ?_;clear hK K
         try simp only[Qa,Zgy,Zge,Zgs]
         refine Zg (i:=12) (v:=?v17) rfl (by kernel_rfl) (by kernel_rfl) (by kernel_rfl) (by kernel_rfl) (Ql ⟨by kernel_rfl,?hy17⟩) (λhno=>absurd hno (by decide)) ?rest17
         case hy17=>(intro W2 _;go_simp;try with_reducible rfl)
         try simp only[Qa,Zgy,Zge,Zgs,putG_a,putG_s,putG_z]
         refine Zm (i:=13) rfl (by kernel_rfl) (by kernel_rfl) (λK hK=>?_);go_simp;(try rw[C]);refine hK.out _ _ ?_;clear hK K
         try simp only[Qa,Zgy,Zge,Zgs]
         refine Zj (by kernel_rfl) ?_ _;refine Qh ?_;clear C u0 c9 u1 c8 f5;go_wp2_with fail
         go_roundg (n-(i+1))
         case measure=>omega
         case rel =>
          refine⟨i+1,_,_,L ++ [⟨gO,q3⟩],by omega,by go_num,o.out.1,o.out.2.1,Za ?_,?_,Za f4,I.out⟩
          ·rw[Qf,f8.out,Qn,Qf,Qb (by rw[hl.out];exact c6)]
           congr 1;have h1:=U.out;rw[Qb (by rw[hl.out];exact c6)]at h1;simp only[Qk]at h1;simp[e4.out,h1]
          ·rw[Qz,Qf]
           have h1:=o.out.2.2;rw[m0.out]at h1;exact h1
      | succ j =>
       obtain rfl:j=t-(x+1):=by omega
       have v5:x<t:=by omega
       have t3:decide ((x:Int)<(t:Int))=true:=decide_eq_true (by omega);have bx:(x:Int)<(t:Int):=by omega
       obtain⟨g1,o1,na,A2,n2,c2,nb,B2,m2,d2,rfl,h4,j0⟩:=(hF.out.below g4).at_ v5;obtain⟨p0,p1,p2,p3⟩:=h4;obtain⟨f,hf⟩:∃ X:Rat,row[x]?.getD 0=X:=⟨_,rfl⟩;rw[hf]at j0;have G8:Hid (((f.den:Nat):Int)≠0):=Za (by have:=f.den_pos;omega)
       have B4:Hid ((f.num*QX ((Zaw row t:Nat):Int) ((f.den:Nat):Int)).natAbs<pw 4096):=Za (by
        rw[Zjs]
        have h1:((Zaw row t/f.den:Nat):Int).natAbs<pw 1000:=by
         rw[Qu];exact QH (Nat.div_le_self _ _) (e8.out t (Qd t))
        have h2:f.num.natAbs<pw 1000:=by rw[<- hf];exact C6.out x
        exact Qt (Ziv h2 h1) (Zcn (by decide)))
       obtain⟨gf,j7⟩:∃ g,wr.heap.size=g:=⟨_,rfl⟩;obtain⟨Vf,p7,e3,qf,kW,kB,sf⟩:=Zt 41 #[.bool na,.slice A2 n2 c2,.bool nb,.slice B2 m2 d2] (Qc wr.heap.size wr) (Qd _);have j8:=j0.below e3;have l3:=f6.below e3;have d6:=d3.below e3 d3.lt;have i0:=u9.below e3;rw[j7]at qf;obtain⟨s0,s1,s2,s3,-⟩:=qf.four;obtain⟨r0,r1,-,-⟩:=d6.two;obtain⟨n5,A5,k5,c5,u0,u1,-⟩:=i0.at_ (i:=x) (by rw[c0.out];exact v5);have c9:=i0.frozen (x*2);have c8:=i0.frozen (x*2+1);have A8:Hid (Kept (λk=>k=gO) Wo Vf):=Za (h7.below e3);replace i0:=Za i0;replace hf:=Za hf;clear j0 f6 d3 kW kB sf h7 qf d6 u9 q4 g4;go_wp2_with fail;(try rw[j7]);(try rw[p7]);clear p7 p0 p1 p2 p3;have O:Hid (∀ wx,Below Vf.heap.size Vf wx->wx.cell? ⟨gf,0,none⟩=some (.bool na)/\wx.cell? ⟨gf,1,none⟩=some (.slice A2 n2 c2)/\wx.cell? ⟨gf,2,none⟩=some (.bool nb)/\wx.cell? ⟨gf,3,none⟩=some (.slice B2 m2 d2)/\wx.cell? ⟨gd,0,none⟩=some (.bool dn)/\wx.cell? ⟨gd,1,none⟩=some (.slice dA dk dc)):=Za (λwx hbx=>⟨Zb hbx s0,Zb hbx s1,Zb hbx s2,Zb hbx s3,Zb hbx r0,Zb hbx r1⟩);have b7:Below Vf.heap.size Vf Vf.drew:=Zf (Qc _ _) 1;refine wp_heldS [10] hmx O b7 (λhxs9=>?_);refine Zgf 2 [0,1] rfl (by kernel_rfl) (O.out _ b7) ?_
       iterate 2 (refine tk1 (v:=?_) rfl (Ql ⟨by kernel_rfl,?_⟩) ?_;rotate_left;(· intro W2 _;go_simp;try with_reducible rfl);try simp only[Qa,Zgy,Zge,Zgs,putG_a,putG_s,putG_z])
       refine tk0 ?_;refine Zje 5 [2,3,4,5,6] rfl (by kernel_rfl) (O.out _ b7) ?_
       iterate 5 (refine tk1 (v:=?_) rfl (Ql ⟨by kernel_rfl,?_⟩) ?_;rotate_left;(· intro W2 hSw;(try dsimp only at hSw);go_simp;try with_reducible rfl);try simp only[Qa,Zgy,Zge,Zgs,putG_a,putG_s,putG_z])
       refine tk0 ?_;refine Ze (i:=7) rfl (by kernel_rfl) (λK hK=>?_);go_simp;refine(Zor dn nb dA B2 dk dc m2 d2 _ _ Vf.drew (l3.below b7) (j8.2.below b7) G8.out).mono ?_;rintro e D4 ⟨g5,C0,B1,B9,B7,rfl,g7⟩;have b5:=b7.trans (g5.mono b7.size);refine hK.out _ _ (λ_=>O.out _ b5) ?_;clear hK K
       try simp only[Qa,Zgy,Zge,Zgs]
       refine Ze (i:=8) rfl (by kernel_rfl) (λK hK=>?_);go_simp;refine(Zfo na C0 A2 B1 n2 c2 B9 B7 _ _ D4 (j8.1.below b5) g7 B4.out).mono ?_;rintro e x8 ⟨f9,t6,q8,q5,r9,rfl,g2⟩;have J:=b5.trans (f9.mono b5.size);refine hK.out _ _ (λ_=>O.out _ J) ?_;clear hK K
       try simp only[Qa,Zgy,Zge,Zgs]
       refine Zgf 1 [9] rfl (by kernel_rfl) (O.out _ J) ?_
       (refine tk1 (v:=?_) rfl (Ql ⟨by kernel_rfl,?_⟩) ?_;rotate_left;(· intro W2 _;go_simp;try with_reducible rfl);try simp only[Qa,Zgy,Zge,Zgs,putG_a,putG_s,putG_z])
       refine tk0 ?_;have H0:=i0.out.below J;obtain⟨Z9,C⟩:∃ W,(x8.setCell ⟨gO,x*2,none⟩ (.bool t6)).setCell ⟨gO,x*2+1,none⟩ (.slice q8 q5 r9)=W:=⟨_,rfl⟩;have E3:Hid (Kept (λk=>k=gO) Wo Z9):=Za (by rw[<- C];exact((A8.out.below J).set_ (p:=⟨gO,x*2,none⟩) (.inl rfl) _).set_ (p:=⟨gO,x*2+1,none⟩) (.inl rfl) _);have J3:Hid (POwn 39 Z9 gO (q3.set x (f.num*QX ((Zaw row t:Nat):Int) ((f.den:Nat):Int)))):=Za (by rw[<- C];exact H0.set_ (by rw[c0.out];exact v5) g2);have g0:=Zb J u0;have J2:=Zb J u1;have f0:=Zk J u0 c9;have f1:=Zk J u1 c8;clear H0;refine Zm (i:=10) rfl (by kernel_rfl) (by kernel_rfl) (λK hK=>?_);go_simp;(try rw[C]);refine hK.out _ _ ?_;clear hK K
       try simp only[Qa,Zgy,Zge,Zgs]
       refine Zj (by kernel_rfl) ?_ _;refine Qh ?_;clear C f0 f1 g0 J2 g5 f9 b7 b5 J O hxs9 r0 r1 s0 s1 s2 s3 g7 g2 l3 j8 i0 u0 u1 c9 c8;go_wp2_with fail
       go_roundg (t-(x+1))
       case measure=>omega
       case rel =>
        refine⟨x+1,_,by omega,by go_num,J3.out,Za (by rw[QN];exact c0.out),Za (λy=>?_),E3.out⟩;rw[QW];by_cases hy:x=y
        ·subst hy
         rw[if_pos rfl,if_pos (by rw[c0.out];exact v5),if_pos (by omega),Zjs,hf.out];rfl
        ·rw[if_neg hy,H9.out y]
         by_cases h1:y<x;rw[if_pos h1,if_pos (by omega)];rw[if_neg h1,if_neg (by omega)]
    | succ j =>
     obtain rfl:j=n1-(t+1):=by omega
     have J7:t<n1:=by omega
     have t2:decide ((t:Int)<(n1:Int))=true:=decide_eq_true (by omega);have bt:(t:Int)<(n1:Int):=by omega
     obtain⟨g1,o1,na,A2,n2,c2,nb,B2,m2,d2,rfl,h4,j0⟩:=(hF.out.below g4).at_ J7;obtain⟨p0,p1,p2,p3⟩:=h4;obtain⟨f,hf⟩:∃ X:Rat,row[t]?.getD 0=X:=⟨_,rfl⟩;rw[hf]at j0;have N2:f.den<pw 1000:=by rw[<- hf];exact QH (Zo9 row (QL t)) (e8.out (t+1) (by omega))
     have o4:Hid (Zaw row (t+1)=Zaw row t*(f.den/QV (Zaw row t) f.den)):=Za (by rw[<- hf];rfl);have J1:0<QV (Zaw row t) f.den:=Nat.gcd_pos_of_pos_left _ (Zd6 row t)
     have L0:Hid (((QV (Zaw row t) f.den:Nat):Int).natAbs<pw 4096):=Za (by
      rw[Qu];exact QH (Nat.le_of_dvd (Zd6 row t) (Nat.gcd_dvd_left _ _)) (Qt (e8.out t (by omega)) (Zcn (by decide))))
     obtain⟨gf,j7⟩:∃ g,wr.heap.size=g:=⟨_,rfl⟩;obtain⟨Vf,p7,e3,qf,kW,kB,sf⟩:=Zt 41 #[.bool na,.slice A2 n2 c2,.bool nb,.slice B2 m2 d2] (Qc wr.heap.size wr) (Qd _);have j8:=j0.below e3;have l3:=f6.below e3;have d6:=d3.below e3 d3.lt;rw[j7]at qf;obtain⟨s0,s1,s2,s3,-⟩:=qf.four;obtain⟨r0,r1,-,-⟩:=d6.two;have A8:Hid (Kept (λk=>k=gd) V Vf):=Za (o6.below e3);replace qf:=Za qf;replace d6:=Za d6;replace hf:=Za hf;clear j0 f6 d3 kW kB sf o6;go_wp2_with fail;(try rw[j7]);(try rw[p7]);refine(Zj3 dn nb dA B2 dk dc m2 d2 _ _ Vf l3 j8.2).mono ?_;rw[Qu,Qu];rintro e w2 ⟨m4,n3,A3,k3,c3,code,rfl,hR⟩;have hG:=hR.small L0.out;have C9:=Zd m4 qf.out;have A4:=Zd m4 d6.out;have F5:=l3.below m4;have G4:=j8.2.below m4;have F6:Hid (Kept (λk=>k=gd) V w2):=Za (A8.out.below m4);clear s0 s1 s2 s3 r0 r1 l3 j8 qf d6 m4 hR p7 p0 p1 p2 p3;obtain⟨gc,v3⟩:∃ g,w2.heap.size=g:=⟨_,rfl⟩;obtain⟨Vc,G6,i9,qc,kW,kB,sc⟩:=Zt 39 #[.bool n3,.slice A3 k3 c3] (Qc w2.heap.size w2) (Qd _);have H7:=hG.below i9;have F1:=F5.below i9;have G0:=G4.below i9;have F3:=C9.below i9 C9.lt;have m7:=A4.below i9 A4.lt;have K4:Hid (Kept (λk=>k=gd) V Vc):=Za (F6.out.below i9);rw[v3]at qc;obtain⟨-,-,s2,s3,-⟩:=F3.four;obtain⟨r0,r1,G7,H8⟩:=m7.two;obtain⟨y0,y1,-,-⟩:=qc.two;have z4:Hid (((QV (Zaw row t) f.den:Nat):Int)≠0):=Za (by omega)
     have B4:Hid ((((Zaw row t:Nat):Int)*QX ((f.den:Nat):Int) ((QV (Zaw row t) f.den:Nat):Int)).natAbs<pw 4096):=Za (by
      rw[Zjs,<- Yc,<- o4.out,Qu];exact Qt (e8.out (t+1) (by omega)) (Zcn (by decide)))
     replace m7:=Za m7;clear hG F5 G4 C9 A4 F3 qc kW kB sc i9 F6;go_wp2_with fail;(try rw[v3]);(try rw[G6]);replace j7:=Za j7;replace v3:=Za v3;clear G6;have O:Hid (∀ wx,Below Vc.heap.size Vc wx->wx.cell? ⟨gd,0,none⟩=some (.bool dn)/\wx.cell? ⟨gd,1,none⟩=some (.slice dA dk dc)/\wx.cell? ⟨gf,2,none⟩=some (.bool nb)/\wx.cell? ⟨gf,3,none⟩=some (.slice B2 m2 d2)/\wx.cell? ⟨gc,0,none⟩=some (.bool n3)/\wx.cell? ⟨gc,1,none⟩=some (.slice A3 k3 c3)):=Za (λwx hbx=>⟨Zb hbx r0,Zb hbx r1,Zb hbx s2,Zb hbx s3,Zb hbx y0,Zb hbx y1⟩);have b7:Below Vc.heap.size Vc Vc.drew:=Zf (Qc _ _) 1;refine wp_heldS [6] hmx O b7 (λhxs9=>?_);refine Zje 4 [0,1,2,3] rfl (by kernel_rfl) (O.out _ b7) ?_
     iterate 4 (refine tk1 (v:=?_) rfl (Ql ⟨by kernel_rfl,?_⟩) ?_;rotate_left;(· intro W2 hSw;(try dsimp only at hSw);go_simp;try with_reducible rfl);try simp only[Qa,Zgy,Zge,Zgs,putG_a,putG_s,putG_z])
     refine tk0 ?_;refine Ze (i:=4) rfl (by kernel_rfl) (λK hK=>?_);go_simp;refine(Zor nb n3 B2 A3 m2 d2 k3 c3 _ _ Vc.drew (G0.below b7) (H7.below b7) z4.out).mono ?_;rintro e D4 ⟨g5,C0,B1,B9,B7,rfl,g7⟩;have b5:=b7.trans (g5.mono b7.size);refine hK.out _ _ (λ_=>O.out _ b5) ?_;clear hK K
     try simp only[Qa,Zgy,Zge,Zgs]
     refine Ze (i:=5) rfl (by kernel_rfl) (λK hK=>?_);go_simp;refine(Zfo dn C0 dA B1 dk dc B9 B7 _ _ D4 (F1.below b5) g7 B4.out).mono ?_;rintro e x8 ⟨f9,t6,q8,q5,r9,rfl,g2⟩;have J:=b5.trans (f9.mono b5.size);refine hK.out _ _ (λ_=>O.out _ J) ?_;clear hK K
     try simp only[Qa,Zgy,Zge,Zgs]
     obtain⟨Z9,C,J9,q9,st⟩:=Zbe (B:=gd) t6 q8 q5 r9 (Qc gd x8) (Qd gd) (m7.out.below J m7.out.lt)
     have K6:Hid (Wd Z9 t6 q8 q5 r9 ((Zaw row (t+1):Nat):Int)):=Za (by
      have h1:=st.1 _ _ _ _ _ g2;rw[Zjs,<- Yc,<- o4.out]at h1;exact h1)
     have E3:Hid (Kept (λk=>k=gd) V Z9):=Za (by rw[<- C];exact((K4.out.below J).set_ (p:=⟨gd,0,none⟩) (.inl rfl) _).set_ (p:=⟨gd,1,none⟩) (.inl rfl) _);have g0:=Zb J r0;have g1:=Zb J r1;have f0:=Zk J r0 G7;have f1:=Zk J r1 H8;refine Zm (i:=6) rfl (by kernel_rfl) (by kernel_rfl) (λK hK=>?_);go_simp;(try rw[C]);refine hK.out _ _ ?_;clear hK K
     try simp only[Qa,Zgy,Zge,Zgs]
     refine Zj (by kernel_rfl) ?_ _;refine Qh ?_;clear C f0 f1 g0 g1 g5 f9 b7 b5 J O hxs9 r0 r1 G7 H8 s2 s3 y0 y1 g7 g2 st J9 H7 F1 G0 m7;go_wp2_with fail
     go_roundg (n1-(t+1))
     case measure=>omega
     case rel=>exact⟨t+1,t6,q8,q5,r9,by omega,by go_num,q9,K6.out,E3.out⟩
def Zqd(Q:List (List Rat))(n m:Nat):Prop:=(∀ i k,i<n->k<=m->Zaw (Q[i]?.getD []) k<pw 1000)/\∀ i j,(Zl Q i j).num.natAbs<pw 1000
theorem OwnP.poly_at{t:TypeId}{w:World}{base:Nat}{v:Value}{xs:List Int}(h:OwnP t w base v xs):∃ A c,v=.slice A xs.length c/\xs.length<=c/\c<=maxLen/\∀ k,k<xs.length->∃ b neg A1 n1 c1,A=some ⟨b,0,none⟩/\w.cell? ⟨b,k*2,none⟩=some (.bool neg)/\w.cell? ⟨b,k*2+1,none⟩=some (.slice A1 n1 c1)/\Wd w neg A1 n1 c1 (xs[k]?.getD 0):=by
 obtain⟨es,h1,h2,rfl⟩:=h;rcases h1 with ⟨rfl,rfl⟩|⟨g,sp,rfl,h4,h5,h6⟩;exact⟨none,0,rfl,Qd _,QO _,λk hk=>absurd hk (by simp)⟩
 ·rw[Qm]
  refine⟨_,es.length+sp,rfl,Nat.le_add_right _ _,h5,λk hk=>?_⟩;have he:=Qb hk;have hc:=Zi0 (es:=es++Qe sp Zcj) (i:=k) (e:=es[k]) (by rw[Qw hk];exact he);have hm:=h2 es[k] (QY hk);refine⟨g,_,_,_,_,rfl,by rw[h6.cell];exact hc.1,by rw[h6.cell];exact hc.2,?_⟩;rw[Qg,he];exact WE.wd hm.1 hm.2
section
variable{tS tF tW tR tI tX tB t:TypeId}{w w' W0:World}{g gn gX gO Bs go2 n c base i:Nat}{A:Option Addr}{L2:List RZ}{L:List RF}{cs:Array Value}{qs part:List Rat}{xs:List Int}{cur:RS}{row:Option Nat}
theorem Zqo{neg:Bool}{A:Option Addr}{n c:Nat}{z:Int}(h:Wd w neg A n c z)(hg:w.grownBy w' row)(hr:∀ r,row=some r->∃ o:Obj,w.heap[r]?=some o/\o.isCells=false):Wd w' neg A n c z:=⟨h.1,h.2.1,Zg6 h.2.2 hg hr⟩
theorem Zvb(h:FOwn tF w g qs)(hg:w.grownBy w' row)(hr:∀ r,row=some r->∃ o:Obj,w.heap[r]?=some o/\o.isCells=false):FOwn tF w' g qs:=by
 obtain⟨es,zs,h1,h2,h3⟩:=h;exact⟨es,zs,Zcx h1 hg hr,λe he=>⟨Zqo (h2 e he).1 hg hr,Zqo (h2 e he).2 hg hr⟩,h3⟩
theorem Zu4(h:POwn tW w g xs)(hg:w.grownBy w' row)(hr:∀ r,row=some r->∃ o:Obj,w.heap[r]?=some o/\o.isCells=false):POwn tW w' g xs:=by
 obtain⟨es,h1,h2,h3⟩:=h;exact⟨es,Zcx h1 hg hr,λe he=>⟨Zg6 (h2 e he).1 hg hr,(h2 e he).2⟩,h3⟩
theorem Zv5(h:MatZ tR tW w go2 L2)(hg:w.grownBy w' row)(hr:∀ r,row=some r->∃ o:Obj,w.heap[r]?=some o/\o.isCells=false):MatZ tR tW w' go2 L2:=by
 obtain⟨⟨zs,h1⟩,h2,h3⟩:=h;exact⟨⟨zs,Zcx h1 hg hr⟩,λr hr'=>⟨Zu4 (h2 r hr').1 hg hr,(h2 r hr').2⟩,h3⟩
theorem Kept.others{G:Nat->Prop}(h:Kept G w w')(hG:∀ k,G k->∃ t cs,Blk w k t cs):KeepsOthers w w':=
 ⟨h.size,λk o hk ho=>(h.block k (Array.getElem?_eq_some_iff.1 hk).1 (λhg=>by
  obtain⟨t,cs,hb⟩:=hG k hg;unfold Blk at hb;rw[hb]at hk;cases hk;exact absurd ho (by simp[Obj.isCells]))).trans hk⟩
def EnvK(tI tX tB tR tW:TypeId)(w:World)(gn gX gO Bs go2 n:Nat)(A:Option Addr)(c:Nat)(L2:List RZ):Prop:=
 Blk w gn tI #[.int .i64 n]/\Blk w gX tX #[.slice (some ⟨gO,0,none⟩) n n]/\Blk w Bs tB #[.slice A n c]/\MatZ tR tW w go2 L2
theorem EnvK.below(h:EnvK tI tX tB tR tW w gn gX gO Bs go2 n A c L2)(hb:Below w.heap.size w w'):EnvK tI tX tB tR tW w' gn gX gO Bs go2 n A c L2:=
 ⟨Zd hb h.1,Zd hb h.2.1,Zd hb h.2.2.1,h.2.2.2.below hb⟩
theorem EnvK.own(h:EnvK tI tX tB tR tW w gn gX gO Bs go2 n A c L2)(hg:w.grownBy w' row)(hr:∀ r,row=some r->∃ o:Obj,w.heap[r]?=some o/\o.isCells=false):EnvK tI tX tB tR tW w' gn gX gO Bs go2 n A c L2:=
 ⟨Zcx h.1 hg hr,Zcx h.2.1 hg hr,Zcx h.2.2.1 hg hr,Zv5 h.2.2.2 hg hr⟩
def NoT(tI tX tB tR tW t:TypeId):Prop:=tI≠t/\tX≠t/\tB≠t/\tR≠t/\tW≠t
theorem EnvK.ne(h:EnvK tI tX tB tR tW w gn gX gO Bs go2 n A c L2)(ht:NoT tI tX tB tR tW t)(hb:Blk w g t cs):gn≠g/\gX≠g/\Bs≠g/\go2≠g/\∀ r ∈ L2,r.g≠g:=by
 obtain⟨h1,h2,h3,⟨zs,h4⟩,h5,-⟩:=h;refine⟨λe=>ht.1 ?_,λe=>ht.2.1 ?_,λe=>ht.2.2.1 ?_,λe=>ht.2.2.2.1 ?_,λr hr e=>ht.2.2.2.2 ?_⟩;subst e;exact h1.type hb;subst e;exact h2.type hb;subst e;exact h3.type hb;subst e;exact h4.type hb
 ·obtain⟨es,h6,-,-⟩:=(h5 r hr).1
  rw[e]at h6;exact h6.type hb
theorem EnvK.keptG(h:EnvK tI tX tB tR tW w gn gX gO Bs go2 n A c L2)(ht:NoT tI tX tB tR tW t)(hb:Blk w g t cs)(hn:NoLimb cs)(hk:Kept (λk=>k=g) w w'):EnvK tI tX tB tR tW w' gn gX gO Bs go2 n A c L2:=by
 obtain⟨e1,e2,e3,e4,e5⟩:=h.ne ht hb;obtain⟨h1,h2,h3,h4⟩:=h;exact⟨hk.blk h1 e1,hk.blk h2 e2,hk.blk h3 e3,h4.keptG hk e4 e5 (λk hk=>⟨t,cs,hk▸hb,hn⟩)⟩
theorem EnvK.grownT(h:EnvK tI tX tB tR tW w gn gX gO Bs go2 n A c L2)(ht:NoT tI tX tB tR tW t)(hg:w.grownBy w' row)(hr:∀ k,row=some k->∃ cs,Blk w k t cs/\NoLimb cs):EnvK tI tX tB tR tW w' gn gX gO Bs go2 n A c L2:=by
 cases row with
 | none=>exact h.below ⟨hg.os,hg.tape,hg.output,hg.size,λk hk=>hg.block k hk (by simp)⟩
 | some k =>
  obtain⟨cs,hb,hn⟩:=hr k rfl;exact h.keptG ht hb hn ⟨hg.os,hg.tape,hg.output,hg.size,λj hj hne=>hg.block j hj (by simpa using hne)⟩
theorem EnvK.sl(h:EnvK tI tX tB tR tW w gn gX gO Bs go2 n (some ⟨go2,0,none⟩) c L2)(hl:L2.length=n)(hc:n<=c)(hm:c<=maxLen):SL w (some ⟨go2,0,none⟩) n c (L2.map RZ.rs):=by
 refine⟨by rw[Qm,hl],hc,hm,λ_=>⟨go2,0,rfl,λk e he=>?_⟩⟩;rw[Qg]at he;obtain⟨r,hr,rfl⟩:=Option.map_eq_some_iff.1 he;rw[QD];exact(h.2.2.2.cell hr).1
def OutK(tS tF:TypeId)(w:World)(base gO i:Nat)(L:List RF):Prop:=
 Blk w gO tS (Zx (Qe i Zaz++L.map RF.rs))/\(∀ r ∈ L,(FOwn tF w r.g r.q/\r.q.length<=r.c/\r.c<=maxLen)/\base<=r.g)/\(L.map RF.g).Nodup
theorem OutK.own(h:OutK tS tF w base gO i L)(hg:w.grownBy w' row)(hr:∀ r,row=some r->∃ o:Obj,w.heap[r]?=some o/\o.isCells=false):OutK tS tF w' base gO i L:=
 ⟨Zcx h.1 hg hr,λr hr'=>⟨⟨Zvb (h.2.1 r hr').1.1 hg hr,(h.2.1 r hr').1.2⟩,(h.2.1 r hr').2⟩,h.2.2⟩
def BunK(tI tX tB tR tW tS tF:TypeId)(gn gX gO Bs go2 n:Nat)(A:Option Addr)(c:Nat)(L2:List RZ)(W0:World)(i:Nat)(cur:RS)(part:List Rat)(L:List RF)(w:World):Prop:=
 EnvK tI tX tB tR tW w gn gX gO Bs go2 n A c L2/\Blk w gO tS (Zx (Qe i Zaz++cur::L.map RF.rs))/\OwnF tF w W0.heap.size cur.val part/\(∀ r ∈ L,FOwn tF w r.g r.q)/\Kept (λk=>k=gO) W0 w
theorem BunK.below(h:BunK tI tX tB tR tW tS tF gn gX gO Bs go2 n A c L2 W0 i cur part L w)(hb:Below w.heap.size w w'):BunK tI tX tB tR tW tS tF gn gX gO Bs go2 n A c L2 W0 i cur part L w':=
 ⟨h.1.below hb,Zd hb h.2.1,h.2.2.1.kept hb,λr hr=>(h.2.2.2.1 r hr).below hb,h.2.2.2.2.below hb⟩
theorem BunK.turn(h:BunK tI tX tB tR tW tS tF gn gX gO Bs go2 n A c L2 W0 i cur part L w)(ht:NoT tI tX tB tR tW tF)(hts:tS≠tF){gs:Nat}(hb:Blk w gs tF cs)(hn:NoLimb cs)(hL:∀ r ∈ L,r.g≠gs)(hc:cur.val.ownBlock≠some gs)(hg:W0.heap.size<=gs)(hk:Kept (λk=>k=gs) w w') :
    BunK tI tX tB tR tW tS tF gn gX gO Bs go2 n A c L2 W0 i cur part L w':=by
 obtain⟨h1,h2,h3,h4,h5⟩:=h;have hG:∀ k,k=gs->∃ t cs,Blk w k t cs/\NoLimb cs:=λk hk=>⟨tF,cs,hk▸hb,hn⟩;exact⟨h1.keptG ht hb hn hk,hk.blk h2 (λe=>hts (by subst e;exact h2.type hb)),h3.keptG hb hn hc hk,λr hr=>(h4 r hr).keptG hk (hL r hr) hG,h5.and hk (λk h1 h2=>by omega)⟩
theorem BunK.app(h:BunK tI tX tB tR tW tS tF gn gX gO Bs go2 n A c L2 W0 i cur part L w)(ht:NoT tI tX tB tR tW tF)(htS:NoT tI tX tB tR tW tS)(hts:tS≠tF)(hL0:∀ r ∈ L,r.g<W0.heap.size){cur':RS}{part':List Rat}
    (hg:w.grownBy w' cur.val.ownBlock) (ho:OwnF tF w' W0.heap.size cur'.val part') (hk:∀ (A:Option Addr) (n c:Nat) (l:List Nat),Lim w A n c l->Lim w' A n c l) :
    BunK tI tX tB tR tW tS tF gn gX gO Bs go2 n A c L2 W0 i cur' part' L (w'.setCell ⟨gO,i,none⟩ cur'.val):=by
 obtain⟨h1,h2,h3,h4,h5⟩:=h;have f:=h3.ownBlk;have e1:=h1.grownT ht hg (λk hk=>by obtain⟨cs,a,b,-⟩:=f k hk;exact⟨cs,a,b⟩)
 have u:cur.val.ownBlock≠some gO:=λe=>by
  obtain⟨cs,a,-,-⟩:=f gO e;exact hts (h2.type a)
 have b2:Blk w' gO tS (Zx (Qe i Zaz++cur::L.map RF.rs)):=(hg.block gO h2.lt (λe=>u e.symm)).trans h2
 have f4:∀ r ∈ L,FOwn tF w' r.g r.q:=λr hr=>(h4 r hr).grown hg (λe=>by
  have:=(f _ e).choose_spec.2.2;have:=hL0 r hr;omega) hk
 have k5:Kept (λk=>k=gO) W0 w':=h5.grownG hg (λk hk=>(f k hk).choose_spec.2.2);have o:=Zas (Qe i Zaz++cur::L.map RF.rs);have kS:Kept (λk=>k=gO) w' (w'.setCell ⟨gO,i,none⟩ cur'.val):=Kept.set_ (G:=λk=>k=gO) (QM _ _) (p:=⟨gO,i,none⟩) (.inl rfl) _;have hG:∀ k,k=gO->∃ t cs,Blk w' k t cs/\NoLimb cs:=λk hk=>⟨tS,_,hk▸b2,o⟩;refine⟨e1.keptG htS b2 o kS,?_,ho.keptG b2 o (λe=>?_) kS,λr hr=>(f4 r hr).keptG kS (λe=>?_) hG,k5.trans kS⟩
 ·have:=b2.set_ i cur'.val
  rw[show cur'.val=.slice cur'.A cur'.n cur'.c from rfl,Zch cur']at this;rw[QQ _ _ (by simp),List.length_replicate,QS,QT]at this;exact this
 ·obtain⟨cs,a,-,-⟩:=ho.ownBlk gO e
  exact hts (b2.type a)
 ·obtain⟨es,zs,a,-,-⟩:=f4 r hr
  rw[e]at a;exact hts (b2.type a)
theorem BunK.out(h:BunK tI tX tB tR tW tS tF gn gX gO Bs go2 n A c L2 W0 i cur part L w)(hp:part ≠ [])(hO:OutK tS tF W0 base gO (i+1) L)(hb:base<=W0.heap.size):∃ r:RF,r.q=part/\OutK tS tF w base gO i (r::L):=by
 obtain⟨h1,h2,h3,h4,h5⟩:=h;rcases h3.fown with ⟨e,e2⟩|⟨g,cc,e,hg,o,u,hF⟩;exact absurd e2 hp
 ·have f:cur=⟨some ⟨g,0,none⟩,part.length,cc⟩:=by
    obtain⟨a,b,d⟩:=cur;simp only[RS.val,Value.slice.injEq]at e;obtain⟨rfl,rfl,rfl⟩:=e;rfl
  subst f;refine⟨⟨g,cc,part⟩,rfl,h2,λr hr=>?_,?_⟩
  ·rcases List.mem_cons.1 hr with rfl|hr
   exact⟨⟨hF,o,u⟩,Qj hb hg⟩;exact⟨⟨h4 r hr,(hO.2.1 r hr).1.2⟩,(hO.2.1 r hr).2⟩
  ·rw[Qv,List.nodup_cons]
   refine⟨λhm=>?_,hO.2.2⟩;obtain⟨r,hr,e⟩:=List.mem_map.1 hm;have h1:=(hO.2.1 r hr).1.1.lt;have h2:g=r.g:=e.symm;omega
end
def Zdr(f:Nat->List Rat)(n i t:Nat):List (List Rat):=(Qr n).map λj=>if j<i then f j else if j=i then (f j).take t else []
theorem Zu2(f:Nat->List Rat)(n i t:Nat):(Zdr f n i t).length=n:=by unfold Zdr;simp
theorem Zn3{f:Nat->List Rat}{n i t j:Nat}(hj:j<n):(Zdr f n i t)[j]?.getD []=if j<i then f j else if j=i then (f j).take t else []:=by
 unfold Zdr;rw[Qg,Qp hj];rfl
theorem Zs6(f:Nat->List Rat)(n:Nat):Zdr f n 0 0=Qe n []:=by
 unfold Zdr;apply QK;intro j;rw[Qg];by_cases hj:j<n;rw[Qp hj,QC,if_neg (Yb _),Ye,ite_self,Qo,if_pos hj];rw[QB (by simpa using hj),Qo,if_neg hj];rfl
theorem Zrx{f:Nat->List Rat}{n i t:Nat}(h:(f i).length<=t):Zdr f n i t=Zdr f n (i+1) 0:=by
 unfold Zdr;refine QG λj hj=>?_;rcases Nat.lt_trichotomy j i with h1|h1|h1;rw[if_pos h1,if_pos (by omega)];subst h1;rw[if_neg (QI _),if_pos rfl,if_pos (by omega),Qs h];rw[if_neg (by omega),if_neg (by omega),if_neg (by omega),Ye,ite_self]
theorem Zvr(f:Nat->List Rat)(n:Nat):Zdr f n n 0=(Qr n).map f:=by
 unfold Zdr;refine QG λj hj=>?_;rw[if_pos (by simpa using hj)]
theorem Znt{f:Nat->List Rat}{n i t:Nat}{x:Rat}(hi:i<n)(hx:(f i)[t]?=some x):(Zdr f n i t).set i ((Zdr f n i t)[i]?.getD [] ++ [x])=Zdr f n i (t+1):=by
 apply QK;intro j;rw[QW,Zu2,Zn3 hi,if_neg (QI _),if_pos rfl];by_cases hij:i=j
 ·subst hij
  rw[if_pos rfl,if_pos hi];unfold Zdr;rw[Qg,Qp hi,QC,if_neg (QI _),if_pos rfl,Qn,hx];rfl
 ·rw[if_neg hij]
  unfold Zdr;rw[Qg,Qg];by_cases hj:j<n
  ·rw[Qp hj]
   simp only[QC,Option.some.injEq];by_cases h:j<i;rw[if_pos h,if_pos h];rw[if_neg h,if_neg h,if_neg (by omega),if_neg (by omega)]
  rw[QB (by simpa using hj)];rfl
def Zb8(rs:List RI)(k i:Nat):Int:=((rs[i]?.map RI.l).getD [])[k]?.getD 0
def Zi2(l:List Int)(i:Nat):Int:=l[i]?.getD 0
def Zfx(rs:List RI)(rr ws:List Int)(n m i:Nat):List Rat:=(Qr m).map (λk=>((Zbp ws (Zb8 rs i) (Zb8 rs k) n:Int):Rat)) ++ [((Zbp ws (Zb8 rs i) (Zi2 rr) n:Int):Rat)]
def Zn0(rs:List RI)(rr ws:List Int)(n m:Nat):List (List Rat):=(Qr m).map (Zfx rs rr ws n m)
theorem Zj7(rs:List RI)(rr ws:List Int)(n m i:Nat):(Zfx rs rr ws n m i).length=m+1:=by unfold Zfx;simp
theorem Zyq{rs:List RI}{rr ws:List Int}{n m i k:Nat}(h:k<m):(Zfx rs rr ws n m i)[k]?=some ((Zbp ws (Zb8 rs i) (Zb8 rs k) n:Int):Rat):=by
 unfold Zfx;rw[Qw (by simpa using h),Qg,Qp h];rfl
theorem Zvz{rs:List RI}{rr ws:List Int}{n m i:Nat}:(Zfx rs rr ws n m i)[m]?=some ((Zbp ws (Zb8 rs i) (Zi2 rr) n:Int):Rat):=by
 unfold Zfx;rw[QJ (by simp)];simp
theorem Ztv{rs:List RI}{i k:Nat}{r:RI}(h:rs[i]?=some r):Zb8 rs k i=r.l[k]?.getD 0:=by unfold Zb8;rw[h];rfl
theorem MIL.i64{w:World}{A:Option Addr}{n c:Nat}{rs:List RI}(h:MIL w A n c rs)(k i:Nat):I64 (Zb8 rs k i):=by
 unfold Zb8;cases hr:rs[i]? with
 | none=>unfold I64;simp
 | some r=>exact Zh8 (h.2.2.2.1 r (Qq hr)).2.2.2.1 k
def colG(gR:Nat)(k:Nat)(v:Value)(w:World):Prop:=∃ g,v=.func (.func 92) #[] #[.pointer (some ⟨gR,0,none⟩),.pointer (some ⟨g,0,none⟩)]/\Blk w g 3 #[.int .i64 k]
def fracG(v:Value)(q:Rat)(w:World):Prop:=∃ na A n c nb B m d,v=.agg #[.bool na,.slice A n c,.bool nb,.slice B m d]/\Fr w na A n c nb B m d q
theorem Zl7{gR k:Nat}{v:Value}{w w':World}(hb:Below w.heap.size w w')(h:colG gR k v w):colG gR k v w':=by
 obtain⟨g,e,h1⟩:=h;exact⟨g,e,Zd hb h1⟩
theorem Zqq{v:Value}{q:Rat}{w w':World}(hb:Below w.heap.size w w')(h:fracG v q w):fracG v q w':=by
 obtain⟨na,A,n,c,nb,B,m,d,e,hf⟩:=h;exact⟨na,A,n,c,nb,B,m,d,e,hf.below hb⟩
def Zij(c1 c2 dt:Nat)(gR i k:Nat)(q:Rat)(j:Nat)(v:Value)(w:World):Prop:=if j=c1 then colG gR i v w else if j=c2 then colG gR k v w else if j=dt then fracG v q w else True
theorem Zmf{c1 c2 dt gR i k:Nat}{q:Rat}{j:Nat}{v:Value}{w w':World}(hb:Below w.heap.size w w')(h:Zij c1 c2 dt gR i k q j v w):Zij c1 c2 dt gR i k q j v w':=by
 unfold Zij at h ⊢
 split at h
 rename_i e;rw[if_pos e];exact Zl7 hb h;rename_i e;rw[if_neg e];clear e
 split at h
 rename_i e;rw[if_pos e];exact Zl7 hb h;rename_i e;rw[if_neg e];clear e
 split at h
 rename_i e;rw[if_pos e];exact Zqq hb h;rename_i e;rw[if_neg e];trivial
theorem Zkn(x y z:Value)(W:World):(callFunc 92 #[x,y,z]).run Tryz.prog W=.ok (.enter 92 #[x,y,z]) W:=by simp[go_sem]
theorem Ztg(x y:Value)(W:World):(callFunc 93 #[x,y]).run Tryz.prog W=.ok (.enter 93 #[x,y]) W:=by simp[go_sem]
theorem Zka(gR k:Nat)(w:World) :
    Calls Tryz.prog 91 #[.int .i64 k,.pointer (some ⟨gR,0,none⟩)] w λe w'=>∃ v,e=.returned v/\Below w.heap.size w w'/\colG gR k v w':=by
 obtain⟨W0,f,h,q0,s0⟩:=Zax w 3 #[.int .i64 k];go_enter Tryz.func91,Tryz.ntmps91;go_wp2_with fail;(try rw[f]);go_ret;exact⟨_,rfl,h,_,rfl,q0⟩
theorem Zi1(A:Option Addr)(n c m:Nat)(rs:List RI)(gR g k i:Nat)(w:World)(h:MIL w A n c rs)(hR:w.cell? ⟨gR,0,none⟩=some (.slice A n c))(hg:w.cell? ⟨g,0,none⟩=some (.int .i64 k))(hi:i<n)(hk:k<m)(hm:∀ r ∈ rs,r.n=m)(hm9:m<=900)(hn9:n<=900) :
    Calls Tryz.prog 92 #[.int .i64 i,.pointer (some ⟨gR,0,none⟩),.pointer (some ⟨g,0,none⟩)] w λe w'=>e=.returned (.int .i64 (Zb8 rs k i))/\Below w.heap.size w w':=by
 obtain⟨ga,oa,r,rfl,hr,c0,hL⟩:=h.at_ hi;have u:=hm r (Qq hr);have hl:=hL.1;obtain⟨gb,ob,o,f⟩:=hL.2.2.2.2 (by omega);have c1:=f k (by omega);rw[Ztv hr];rw[o,u]at c0;obtain⟨z,hz⟩:∃ z,r.l[k]?.getD 0=z:=⟨_,rfl⟩;rw[hz]at c1 ⊢;clear hz;have b1:(i:Int)<(n:Int):=by omega
 have b2:(k:Int)<(m:Int):=by omega
 clear h hL f hr hm;go_enter Tryz.func92,Tryz.ntmps92;go_wp2_with fail
 go_quiet (fail)
 go_wp2_with fail;go_ret;exact⟨rfl,by first|exact Qc _ _|exact Zf (Qc _ _) _⟩
theorem side_ok(B:Option Addr)(n d:Nat)(rr:List Int)(gT i:Nat)(w:World)(h:LimI w B n d rr)(hT:w.cell? ⟨gT,0,none⟩=some (.slice B n d))(hi:i<n)(hn9:n<=900) :
    Calls Tryz.prog 93 #[.int .i64 i,.pointer (some ⟨gT,0,none⟩)] w λe w'=>e=.returned (.int .i64 (Zi2 rr i))/\Below w.heap.size w w':=by
 obtain⟨gb,ob,rfl,f⟩:=h.2.2.2.2 (by omega);have c1:=f i hi;have b1:(i:Int)<(n:Int):=by omega
 unfold Zi2;clear h f;go_enter Tryz.func93,Tryz.ntmps93;go_wp2_with fail;go_ret;exact⟨rfl,by first|exact Qc _ _|exact Zf (Qc _ _) _⟩
theorem Zrr(A B C:Option Addr)(n c d e0 m:Nat)(rs:List RI)(rr ws:List Int)(w:World)(h:MIL w A n c rs)(hr:LimI w B n d rr)(hw:LimI w C n e0 ws)(hn0:0<n)(hn9:n<=900)(hm0:0<m)(hm9:m<=900)(a7:∀ r ∈ rs,r.n=m) :
    Calls Tryz.prog 55 #[.slice A n c,.slice B n d,.slice C n e0] w λe w'=>∃ go rs',e=.returned (.slice (some ⟨go,0,none⟩) m m)/\Below w.heap.size w w'/\rs'.length=m/\∃ base,w.heap.size<=base/\MatA 35 41 w' base go rs' (Zn0 rs rr ws n m):=by
 have hmx:Tryz.prog.follows .mixedOrders=true:=by kernel_rfl
 have e1:(35:TypeId)≠41:=by decide
 obtain⟨iF,hi,h2,g2,f5⟩:=info_parts Zdg;obtain⟨iS,ki,i7,i2,i1⟩:=info_parts Zeu;obtain⟨V0,i8,b1,⟨p0,p1⟩,sV⟩:=Zfa w 22 #[.slice A n c] 23 #[.slice B n d];obtain⟨gR,e9⟩:∃ g,w.heap.size=g:=⟨_,rfl⟩;rw[e9]at p0 p1;obtain⟨gT,e5⟩:∃ g,gR+1=g:=⟨_,rfl⟩;rw[e5]at p1;obtain⟨base,c0⟩:∃ g,V0.heap.size=g:=⟨_,rfl⟩;obtain⟨W0,d9⟩:∃ X,V0.alloc (.cells (Zx (Qe m Zaz)) 35)=X:=⟨_,rfl⟩;have I:Below base V0 W0:=by rw[<- d9,<- c0];exact(Qc _ _).alloc (Qd _) _
 have q0:Blk W0 base 35 (Zx (Qe m Zaz)):=by rw[<- d9,<- c0];exact Qy _ _ _
 have f6:w.heap.size<=base:=by rw[<- c0];exact b1.size
 have d7:base<=W0.heap.size:=by rw[<- d9];simp[c0]
 have g5:Below V0.heap.size V0 W0:=by rw[c0];exact I
 have c2:∀ wx,Below base W0 wx->Below V0.heap.size V0 wx:=λwx hb=>by rw[c0];exact I.trans hb
 have g7:Hid (∀ wx,Below base W0 wx->MIL wx A n c rs):=Za (λwx hb=>(h.below b1).below (c2 wx hb));have g8:Hid (∀ wx,Below base W0 wx->LimI wx B n d rr):=Za (λwx hb=>(hr.below b1).below (c2 wx hb));have h6:Hid (∀ wx,Below base W0 wx->LimI wx C n e0 ws):=Za (λwx hb=>(hw.below b1).below (c2 wx hb));have cR:Hid (∀ wx,Below base W0 wx->wx.cell? ⟨gR,0,none⟩=some (.slice A n c)):=Za (λwx hb=>Zb (c2 wx hb) (p0.cell 0));have cT:Hid (∀ wx,Below base W0 wx->wx.cell? ⟨gT,0,none⟩=some (.slice B n d)):=Za (λwx hb=>Zb (c2 wx hb) (p1.cell 0))
 have g1:Hid (MatA 35 41 W0 base base (Qe m Zaz) (Zdr (Zfx rs rr ws n m) m 0 0)):=Za (by
  rw[Zs6];refine⟨⟨[],by rw[List.append_nil];exact q0⟩,Qd _,by simp,λi r hr=>?_,λi j r s k hr hs hij h1=>?_⟩
  ·rw[Qo]at hr
   split at hr
   ·rename_i hi
    cases hr;rw[Qo,if_pos hi];exact OwnF.nil _ _ _
   cases hr
  ·rw[Qo]at hr
   split at hr
   cases hr;cases h1
   ·cases hr)
 obtain⟨g0,o0,r0,f7,a6,h7,-⟩:=(h.below b1).at_ (i:=0) hn0;rw[f7]at p0;have h0:=a7 r0 (Qq a6);rw[QU,h0]at h7;have i0:V0.cell? ⟨gR,0,none⟩=some (.slice (some ⟨g0,o0,none⟩) n c):=p0.cell 0;have h9:=Zpc (P:=Tryz.prog) 25 35 Tryz.underlying25 ki i7 i2 i1 (m:Int) m rfl (by omega) V0;subst f7;replace a7:=Za a7;replace g9:=Za (b1.trans (g5.mono b1.size));replace hr:=Za hr;clear p0 p1 q0 I h hw a6 g5 c2;have f8:gT+1=base:=by omega
 subst i8;go_enter Tryz.func55,Tryz.ntmps55;go_wp2_with fail;replace e9:=Za e9;replace e5:=Za e5;replace f8:=Za f8;clear i0 h7 h9 c0 d9 sV b1
 go_loopg [21] m (λk iv wr=>∃ (i:Nat) (d4:List RS),i+k=m/\iv=.int .i64 i/\Hid (d4.length=m)/\MatA 35 41 wr base base d4 (Zdr (Zfx rs rr ws n m) m i 0)/\Below base W0 wr)
 case atStart=>exact⟨0,Qe m Zaz,by omega,rfl,Za (by simp),g1.out,Qc _ _⟩
 case round =>
  clear g1;obtain⟨i,d4,j0,rfl,b6,hM,T⟩:=hrel;cases gk with
  | zero =>
   obtain rfl:i=m:=by omega
   have t2:decide ((i:Int)<(i:Int))=false:=by simp
   have i5:=g9.out.trans (T.mono f6);rw[Zvr]at hM;replace hM:=Za hM;go_wp2_with fail;go_ret;exact⟨base,d4,rfl,i5,b6.out,base,f6,hM.out⟩
  | succ k' =>
   obtain rfl:k'=m-(i+1):=by omega
   have c3:i<m:=by omega
   have t2:decide ((i:Int)<(m:Int))=true:=decide_eq_true (by omega);have bi:(i:Int)<(m:Int):=by omega
   replace hM:=Za hM;replace T:=Za T;go_wp2_with fail
   go_loopg [26] m (λk kv wx=>∃ (t:Nat) (c1:List RS),t+k=m/\kv=.int .i64 t/\Hid (c1.length=m)/\MatA 35 41 wx base base c1 (Zdr (Zfx rs rr ws n m) m i t)/\Below base W0 wx)
   case atStart=>exact⟨0,d4,by omega,rfl,b6,hM.out,T.out⟩
   case round =>
    clear hM T b6;obtain⟨t,c1,i9,rfl,b6,hM,T⟩:=hrel
    have e2:((Zdr (Zfx rs rr ws n m) m i t)[i]?.getD []).length+1<=1000:=by
     rw[Zn3 c3,if_neg (QI _),if_pos rfl,Qx,Zj7];omega
    have f:base<=wr.heap.size:=Qj d7 T.size;obtain⟨r,b7⟩:=Zal (L:=c1) (i:=i) (by rw[b6.out];exact c3);obtain⟨cr,zr⟩:=hM.cell b7;replace hM:=Za hM;replace e2:=Za e2;cases gk with
    | zero =>
     obtain rfl:m=t:=by omega
     have t3:decide ((m:Int)<(m:Int))=false:=by simp
     go_wp2_with fail;obtain⟨X0,b9⟩:∃ X,wr.drew=X:=⟨_,rfl⟩;have y:Below wr.heap.size wr X0:=by rw[<- b9];exact Zf (Qc _ _) 1
     have u:Hid (∀ wx,Below wr.heap.size wr wx->wx.cell? ⟨base,i,none⟩=some (.slice r.A r.n r.c)):=Za (λwx J=>Zb J cr);refine wp_heldS [15] hmx u (by rw[b9];exact y) (λhxs=>?_);rw[b9];refine Zje 10 [0,1,2,3,4,5,6,7,8,10] rfl (by kernel_rfl) (u.out _ y) ?_
     iterate 10 (refine tk1 (v:=?_) rfl (Ql ⟨by kernel_rfl,?_⟩) ?_;rotate_left;(· intro W2 hSw;(try dsimp only at hSw);go_simp;try with_reducible rfl);try simp only[Qa,Zgy,Zge,Zgs,putG_a,putG_s,putG_z])
     refine tk0 ?_;refine Za1 [(9,56),(11,58)] (λ_=>[]) [(9,56),(11,58)] (Zij 9 99 11 gR i 0 ((Zbp ws (Zb8 rs i) (Zi2 rr) n:Int):Rat)) 4 (by kernel_rfl) (λ_ _ _ _ _ hb h=>Zmf hb h) (λwx h=>u.out _ (y.trans (h.mono y.size))) ?hop ?hfin
     case hop =>
      intro p hp;simp only[List.mem_cons,QZ,or_false]at hp;simp only[Qv,QA,Zam,Qa,Zgy,Zge,Zgs];rcases hp with rfl|rfl
      ·intro ν wx hb hP
       refine Zn (i:=9) rfl (λK hK=>?_);go_simp;refine(Zka gR i wx).mono ?_;rintro e w5 ⟨v5,rfl,b0,c4⟩;exact hK.out _ _ ⟨_,rfl,(by simp only[Zij];exact c4),b0,trivial⟩
      ·intro ν wx hb hP
       have J:=T.trans ((y.trans (hb.mono y.size)).mono f);have a0:=g7.out wx J;have f3:=h6.out wx J;have d8:=cR.out wx J;have f9:=cT.out wx J;have h8:=g8.out wx J;have h3:=hP (9,56) (by simp) (by kernel_rfl);simp only[Zij]at h3;obtain⟨g3,hν3,e7⟩:=h3;rw[hν3];refine Zn (i:=11) rfl (λK hK=>?_);go_simp;refine(Zxm 92 93 (.pointer (some ⟨gR,0,none⟩)) (.pointer (some ⟨g3,0,none⟩)) (.pointer (some ⟨gT,0,none⟩)) C n e0 ws (Zb8 rs i) (Zi2 rr) wx f3 hn9 (λj _=>a0.i64 _ _) (λj _=>Zh8 hr.out.2.2.2.1 j) (λx W=>Zkn _ _ _ W) (λx W=>Ztg _ _ W) (λW j I hj=>Zi1 _ n c m rs gR g3 i j W (a0.below I) (Zb I d8) (Zb I (e7.cell 0)) hj c3 a7.out hm9 hn9) (λW j I hj=>side_ok B n d rr gT j W (h8.below I) (Zb I f9) hj hn9)).mono ?_;rintro e w5 ⟨b0,i3,A5,k5,c5,i4,B5,m5,d5,rfl,e3⟩;exact hK.out _ _ ⟨_,rfl,(by simp only[Zij];exact⟨_,_,_,_,_,_,_,_,rfl,e3⟩),b0,trivial⟩
     case hfin =>
      intro ν X00 hb00 hP;have h3:=hP (9,56) (by simp);have h5:=hP (11,58) (by simp);simp only[Zij]at h3 h5;obtain⟨g3,h3,-⟩:=h3
      skip
      obtain⟨n6,A6,k6,c6,m6,B6,j6,d6,h5,c8⟩:=h5;simp only[Qv,QA,Zam,Qa,Zgy,Zge,Zgs];rw[h3,h5];clear h3 h5 hP ν;have a6:Below wr.heap.size wr X00:=y.trans (hb00.mono y.size);obtain⟨Y1,a9⟩:∃ Y,X00.alloc (.cells #[.bool n6,.slice A6 k6 c6,.bool m6,.slice B6 j6 d6] 41)=Y:=⟨_,rfl⟩;obtain⟨ga,b3⟩:∃ g,X00.heap.size=g:=⟨_,rfl⟩;have b4:Below X00.heap.size X00 Y1:=by rw[<- a9];exact(Qc _ _).alloc (Qd _) _
      have c9:Blk Y1 ga 41 #[.bool n6,.slice A6 k6 c6,.bool m6,.slice B6 j6 d6]:=by rw[<- a9,<- b3];exact Qy _ _ _
      have O:Below wr.heap.size wr Y1:=a6.trans (b4.mono a6.size);refine Ze (i:=12) rfl (by kernel_rfl) (λK hK=>?_);go_simp;(try rw[a9]);(try rw[b3]);refine hK.out _ _ (λ_=>u.out _ O) ?_;clear hK K a9 b3
      try simp only[Qa,Zgy,Zge,Zgs]
      have U:=(hM.out).below O;have d0:=c8.below b4;have f0:base<=Y1.heap.size:=Qj f O.size;have b5:=U.2.2.2.1 i r b7;refine Ze (i:=13) rfl (by kernel_rfl) (λK hK=>?_);rw[if_pos (by rfl)];refine Z3 _ (.tmp 52) (.tmp 59) 35 rfl base 41 iF Tryz.underlying35 hi h2 g2 f5 (r).val _ rfl b5 _ (some ⟨ga,0,none⟩) 1 1 [⟨n6,A6,k6,c6,m6,B6,j6,d6,((Zbp ws (Zb8 rs i) (Zi2 rr) n:Int):Rat)⟩] rfl (Zay _ c9) rfl (by intro e he;rw[Qi]at he;subst he;exact d0) e2.out f0 ?_;intro v2 Y2 b8 a4 d3 c7
      obtain⟨nA,nn,nc,rfl⟩:∃ A n c,v2=.slice A n c:=by
       obtain⟨A,c,e,-⟩:=b8.fl;exact⟨_,_,_,e⟩
      have a3:=b5.ownBlk
      have V:∀ (g o:Nat) (v:Value),(r).val.ownBlock≠some g->Y1.cell? ⟨g,o,none⟩=some v->Y2.cell? ⟨g,o,none⟩=some v:=λg o v hgg hv=>by
       rw[<- hv];exact QF (a4.block g (Zo hv) (λe=>hgg e.symm))
      have b2:=Za (U.app e1 (i:=i) (r':=⟨nA,nn,nc⟩) b7 a4 b8 d3 c7);rw[Qv,QA,show (FE.q ⟨n6,A6,k6,c6,m6,B6,j6,d6,((Zbp ws (Zb8 rs i) (Zi2 rr) n:Int):Rat)⟩)=((Zbp ws (Zb8 rs i) (Zi2 rr) n:Int):Rat) from rfl,Znt c3 (Zvz)]at b2
      have a5:r.val.ownBlock≠some base:=λe=>by
       obtain⟨cs,a1,-,-⟩:=a3 base e;obtain⟨⟨zs,a2⟩,-⟩:=U;exact e1 (a2.type a1)
      have a8:Y2.cell? ⟨base,i,none⟩=some (.slice r.A r.n r.c):=V _ _ _ a5 (u.out _ O);have e6:Hid (Below base W0 (Y2.setCell ⟨base,i,none⟩ (RS.val ⟨nA,nn,nc⟩))):=Za (((T.trans (O.mono f)).grown a4 (Qj d7 (T.trans (O.mono f)).size) (λk hk=>(a3 k hk).choose_spec.2.2)).setCell b2.out.2.1 _)
      have e4:Y2.frozen? ⟨base,i,none⟩=false:=by
       rw[World.frozen?_of_block (a4.block base (by obtain⟨⟨zs,a2⟩,-⟩:=U;exact a2.lt) (λe=>a5 e.symm))];exact(U.cell b7).2
      refine hK.out _ _ (λ_=>a8) ?_;clear hK K
      try simp only[Qa,Zgy,Zge,Zgs]
      refine Zgf 1 [14] rfl (by kernel_rfl) a8 ?_
      (refine tk1 (v:=?_) rfl (Ql ⟨by kernel_rfl,?_⟩) ?_;rotate_left;(· intro W2 _;go_simp;try with_reducible rfl);try simp only[Qa,Zgy,Zge,Zgs,putG_a,putG_s,putG_z])
      refine tk0 ?_;have f4:=a8;have e8:Hid ((c1.set i ⟨nA,nn,nc⟩).length=m):=Za (by rw[QN];exact b6.out);clear a8 b8 a3 b5 U d0 c9 b4 O V a5;refine Zm (i:=15) rfl (by kernel_rfl) (by kernel_rfl) (λK hK=>?_);go_simp;refine hK.out _ _ ?_;clear hK K
      try simp only[Qa,Zgy,Zge,Zgs]
      refine Zj (by kernel_rfl) ?_ _;refine Qh ?_;clear f4 e4 hxs u y a6 hb00 c8 cr zr a4 d3 c7;go_wp2_with fail;rw[Zrx (by rw[Zj7];exact Qd _)]at b2
      go_roundg (m-(i+1))
      case measure=>omega
      case rel=>exact⟨i+1,_,by omega,by go_num,e8,b2.out,e6.out⟩
    | succ k2 =>
     obtain rfl:k2=m-(t+1):=by omega
     have g6:t<m:=by omega
     have t3:decide ((t:Int)<(m:Int))=true:=decide_eq_true (by omega);go_wp2_with fail;obtain⟨X0,b9⟩:∃ X,wr.drew=X:=⟨_,rfl⟩;have y:Below wr.heap.size wr X0:=by rw[<- b9];exact Zf (Qc _ _) 1
     have u:Hid (∀ wx,Below wr.heap.size wr wx->wx.cell? ⟨base,i,none⟩=some (.slice r.A r.n r.c)):=Za (λwx J=>Zb J cr);refine wp_heldS [17] hmx u (by rw[b9];exact y) (λhxs=>?_);rw[b9];refine Zje 11 [0,1,2,3,4,5,6,7,8,10,11] rfl (by kernel_rfl) (u.out _ y) ?_
     iterate 11 (refine tk1 (v:=?_) rfl (Ql ⟨by kernel_rfl,?_⟩) ?_;rotate_left;(· intro W2 hSw;(try dsimp only at hSw);go_simp;try with_reducible rfl);try simp only[Qa,Zgy,Zge,Zgs,putG_a,putG_s,putG_z])
     refine tk0 ?_;refine Za1 [(9,38),(12,41),(13,42)] (λ_=>[]) [(9,38),(12,41),(13,42)] (Zij 9 12 13 gR i t ((Zbp ws (Zb8 rs i) (Zb8 rs t) n:Int):Rat)) 4 (by kernel_rfl) (λ_ _ _ _ _ hb h=>Zmf hb h) (λwx h=>u.out _ (y.trans (h.mono y.size))) ?hop ?hfin
     case hop =>
      intro p hp;simp only[List.mem_cons,QZ,or_false]at hp;simp only[Qv,QA,Zam,Qa,Zgy,Zge,Zgs];rcases hp with rfl|rfl|rfl
      ·intro ν wx hb hP
       refine Zn (i:=9) rfl (λK hK=>?_);go_simp;refine(Zka gR i wx).mono ?_;rintro e w5 ⟨v5,rfl,b0,c4⟩;exact hK.out _ _ ⟨_,rfl,(by simp only[Zij];exact c4),b0,trivial⟩
      ·intro ν wx hb hP
       refine Zn (i:=12) rfl (λK hK=>?_);go_simp;refine(Zka gR t wx).mono ?_;rintro e w5 ⟨v5,rfl,b0,c4⟩;exact hK.out _ _ ⟨_,rfl,(by simp only[Zij];exact c4),b0,trivial⟩
      ·intro ν wx hb hP
       have J:=T.trans ((y.trans (hb.mono y.size)).mono f);have a0:=g7.out wx J;have f3:=h6.out wx J;have d8:=cR.out wx J;have f9:=cT.out wx J;have h8:=g8.out wx J;have h3:=hP (9,38) (by simp) (by kernel_rfl);simp only[Zij]at h3;obtain⟨g3,hν3,e7⟩:=h3;rw[hν3];have h4:=hP (12,41) (by simp) (by kernel_rfl);simp only[Zij]at h4;obtain⟨g4,hν4,i6⟩:=h4;rw[hν4];refine Zn (i:=13) rfl (λK hK=>?_);go_simp;refine(Zx9 92 92 (.pointer (some ⟨gR,0,none⟩)) (.pointer (some ⟨g3,0,none⟩)) (.pointer (some ⟨gR,0,none⟩)) (.pointer (some ⟨g4,0,none⟩)) C n e0 ws (Zb8 rs i) (Zb8 rs t) wx f3 hn9 (λj _=>a0.i64 _ _) (λj _=>a0.i64 _ _) (λx W=>Zkn _ _ _ W) (λx W=>Zkn _ _ _ W) (λW j I hj=>Zi1 _ n c m rs gR g3 i j W (a0.below I) (Zb I d8) (Zb I (e7.cell 0)) hj c3 a7.out hm9 hn9) (λW j I hj=>Zi1 _ n c m rs gR g4 t j W (a0.below I) (Zb I d8) (Zb I (i6.cell 0)) hj g6 a7.out hm9 hn9)).mono ?_;rintro e w5 ⟨b0,i3,A5,k5,c5,i4,B5,m5,d5,rfl,e3⟩;exact hK.out _ _ ⟨_,rfl,(by simp only[Zij];exact⟨_,_,_,_,_,_,_,_,rfl,e3⟩),b0,trivial⟩
     case hfin =>
      intro ν X00 hb00 hP;have h3:=hP (9,38) (by simp);have h5:=hP (13,42) (by simp);have h4:=hP (12,41) (by simp);simp only[Zij]at h3 h5 h4;obtain⟨g3,h3,-⟩:=h3;obtain⟨g4,h4,-⟩:=h4;obtain⟨n6,A6,k6,c6,m6,B6,j6,d6,h5,c8⟩:=h5;simp only[Qv,QA,Zam,Qa,Zgy,Zge,Zgs];rw[h3,h4,h5];clear h3 h4 h5 hP ν;have a6:Below wr.heap.size wr X00:=y.trans (hb00.mono y.size);obtain⟨Y1,a9⟩:∃ Y,X00.alloc (.cells #[.bool n6,.slice A6 k6 c6,.bool m6,.slice B6 j6 d6] 41)=Y:=⟨_,rfl⟩;obtain⟨ga,b3⟩:∃ g,X00.heap.size=g:=⟨_,rfl⟩;have b4:Below X00.heap.size X00 Y1:=by rw[<- a9];exact(Qc _ _).alloc (Qd _) _
      have c9:Blk Y1 ga 41 #[.bool n6,.slice A6 k6 c6,.bool m6,.slice B6 j6 d6]:=by rw[<- a9,<- b3];exact Qy _ _ _
      have O:Below wr.heap.size wr Y1:=a6.trans (b4.mono a6.size);refine Ze (i:=14) rfl (by kernel_rfl) (λK hK=>?_);go_simp;(try rw[a9]);(try rw[b3]);refine hK.out _ _ (λ_=>u.out _ O) ?_;clear hK K a9 b3
      try simp only[Qa,Zgy,Zge,Zgs]
      have U:=(hM.out).below O;have d0:=c8.below b4;have f0:base<=Y1.heap.size:=Qj f O.size;have b5:=U.2.2.2.1 i r b7;refine Ze (i:=15) rfl (by kernel_rfl) (λK hK=>?_);rw[if_pos (by rfl)];refine Z3 _ (.tmp 34) (.tmp 43) 35 rfl base 41 iF Tryz.underlying35 hi h2 g2 f5 (r).val _ rfl b5 _ (some ⟨ga,0,none⟩) 1 1 [⟨n6,A6,k6,c6,m6,B6,j6,d6,((Zbp ws (Zb8 rs i) (Zb8 rs t) n:Int):Rat)⟩] rfl (Zay _ c9) rfl (by intro e he;rw[Qi]at he;subst he;exact d0) e2.out f0 ?_;intro v2 Y2 b8 a4 d3 c7
      obtain⟨nA,nn,nc,rfl⟩:∃ A n c,v2=.slice A n c:=by
       obtain⟨A,c,e,-⟩:=b8.fl;exact⟨_,_,_,e⟩
      have a3:=b5.ownBlk
      have V:∀ (g o:Nat) (v:Value),(r).val.ownBlock≠some g->Y1.cell? ⟨g,o,none⟩=some v->Y2.cell? ⟨g,o,none⟩=some v:=λg o v hgg hv=>by
       rw[<- hv];exact QF (a4.block g (Zo hv) (λe=>hgg e.symm))
      have b2:=Za (U.app e1 (i:=i) (r':=⟨nA,nn,nc⟩) b7 a4 b8 d3 c7);rw[Qv,QA,show (FE.q ⟨n6,A6,k6,c6,m6,B6,j6,d6,((Zbp ws (Zb8 rs i) (Zb8 rs t) n:Int):Rat)⟩)=((Zbp ws (Zb8 rs i) (Zb8 rs t) n:Int):Rat) from rfl,Znt c3 (Zyq g6)]at b2
      have a5:r.val.ownBlock≠some base:=λe=>by
       obtain⟨cs,a1,-,-⟩:=a3 base e;obtain⟨⟨zs,a2⟩,-⟩:=U;exact e1 (a2.type a1)
      have a8:Y2.cell? ⟨base,i,none⟩=some (.slice r.A r.n r.c):=V _ _ _ a5 (u.out _ O);have e6:Hid (Below base W0 (Y2.setCell ⟨base,i,none⟩ (RS.val ⟨nA,nn,nc⟩))):=Za (((T.trans (O.mono f)).grown a4 (Qj d7 (T.trans (O.mono f)).size) (λk hk=>(a3 k hk).choose_spec.2.2)).setCell b2.out.2.1 _)
      have e4:Y2.frozen? ⟨base,i,none⟩=false:=by
       rw[World.frozen?_of_block (a4.block base (by obtain⟨⟨zs,a2⟩,-⟩:=U;exact a2.lt) (λe=>a5 e.symm))];exact(U.cell b7).2
      refine hK.out _ _ (λ_=>a8) ?_;clear hK K
      try simp only[Qa,Zgy,Zge,Zgs]
      refine Zgf 1 [16] rfl (by kernel_rfl) a8 ?_
      (refine tk1 (v:=?_) rfl (Ql ⟨by kernel_rfl,?_⟩) ?_;rotate_left;(· intro W2 _;go_simp;try with_reducible rfl);try simp only[Qa,Zgy,Zge,Zgs,putG_a,putG_s,putG_z])
      refine tk0 ?_;have f4:=a8;have e8:Hid ((c1.set i ⟨nA,nn,nc⟩).length=m):=Za (by rw[QN];exact b6.out);clear a8 b8 a3 b5 U d0 c9 b4 O V a5;refine Zm (i:=17) rfl (by kernel_rfl) (by kernel_rfl) (λK hK=>?_);go_simp;refine hK.out _ _ ?_;clear hK K
      try simp only[Qa,Zgy,Zge,Zgs]
      refine Zj (by kernel_rfl) ?_ _;refine Qh ?_;clear f4 e4 hxs u y a6 hb00 c8 cr zr a4 d3 c7;go_wp2_with fail
      go_roundg (m-(t+1))
      case measure=>omega
      case rel=>exact⟨t+1,_,by omega,by go_num,e8,b2.out,e6.out⟩
theorem Zmc(na:Bool)(a:List Nat):Zf4 na na a a=true:=by
 unfold Zf4
 have:Zce a a=0:=by
  unfold Zce;simp
 rw[this];simp
theorem Zrs(na nb:Bool)(A B A' B':Option Addr)(n c m d n' c' m' d':Nat)(la lb:List Nat)(w:World)(ha:Lim w A n c la)(hb:Lim w B m d lb)(u:Lim w A' n' c' la)(o:Lim w B' m' d' lb) :
    Calls Tryz.prog 21 #[.agg #[.bool na,.slice A n c,.bool nb,.slice B m d],.agg #[.bool na,.slice A' n' c',.bool nb,.slice B' m' d']] w λe w'=>e=.returned (.bool true)/\Below w.heap.size w w':=by
 obtain⟨W0,C,f,⟨q0,q1⟩,s0⟩:=Zfa w 41 #[.bool na,.slice A n c,.bool nb,.slice B m d] 41 #[.bool na,.slice A' n' c',.bool nb,.slice B' m' d'];replace ha:=Za (ha.below f);replace hb:=Za (hb.below f);replace u:=Za (u.below f);replace o:=Za (o.below f);obtain⟨a0,a1,a2,a3,-⟩:=q0.four;obtain⟨b0,b1,b2,b3,-⟩:=q1.four;have hq:=Za (And.intro q0 q1);clear q0 q1;go_enter Tryz.func21,Tryz.ntmps21;go_wp2_with fail;refine(Zey na na A A' n c n' c' _ _ W0 ha.out u.out).mono ?_;rw[Zmc];rintro e w1 ⟨rfl,h⟩;have y:Below w.heap.size w w1:=f.trans (h.mono f.size);obtain⟨q0,q1⟩:=hq.out;replace q0:=Zd h q0;replace q1:=Zd h q1;clear C a0 a1 a2 a3 b0 b1 b2 b3 hq f;obtain⟨a0,a1,a2,a3,-⟩:=q0.four;obtain⟨b0,b1,b2,b3,-⟩:=q1.four;clear q0 q1;go_wp2_with fail;refine(Zey nb nb B B' m d m' d' _ _ w1 (hb.out.below h) (o.out.below h)).mono ?_;rw[Zmc];rintro e w2 ⟨rfl,J⟩;have I:Below w.heap.size w w2:=y.trans (J.mono y.size);go_wp2_with fail;go_ret;exact⟨by simp,I⟩
structure DF where
 na:Bool
 la:List Nat
 nb:Bool
 lb:List Nat
def XL(w:World)(A:Option Addr)(n c:Nat)(ds:List DF):Prop:=
 ds.length=n/\n<=c/\c<=maxLen/\∀ (k:Nat) (d:DF),ds[k]?=some d->∃ g o A1 n1 c1 B1 m1 d1,A=some ⟨g,o,none⟩/\At4 w g (o+k*4) d.na A1 n1 c1 d.nb B1 m1 d1/\Lim w A1 n1 c1 d.la/\Lim w B1 m1 d1 d.lb
def XM(w:World)(A:Option Addr)(n c:Nat)(D:List (List DF)):Prop:=
 D.length=n/\n<=c/\c<=maxLen/\∀ (k:Nat) (ds:List DF),D[k]?=some ds->∃ g o A1 n1 c1,A=some ⟨g,o,none⟩/\w.cell? ⟨g,o+k,none⟩=some (.slice A1 n1 c1)/\XL w A1 n1 c1 ds
section
variable{w w':World}{A:Option Addr}{n c:Nat}{ds:List DF}{D:List (List DF)}
theorem XL.below(h:XL w A n c ds)(hb:Below w.heap.size w w'):XL w' A n c ds:=by
 obtain⟨h1,h2,h3,h4⟩:=h;refine⟨h1,h2,h3,λk d hd=>?_⟩;obtain⟨g,o,A1,n1,c1,B1,m1,d1,e,a,b,b'⟩:=h4 k d hd;exact⟨g,o,A1,n1,c1,B1,m1,d1,e,a.below hb,b.below hb,b'.below hb⟩
theorem XM.below(h:XM w A n c D)(hb:Below w.heap.size w w'):XM w' A n c D:=by
 obtain⟨h1,h2,h3,h4⟩:=h;refine⟨h1,h2,h3,λk d hd=>?_⟩;obtain⟨g,o,A1,n1,c1,e,a,b⟩:=h4 k d hd;exact⟨g,o,A1,n1,c1,e,Zb hb a,b.below hb⟩
def dfQ(q:Rat):DF:=⟨decide (q.num<0),digits q.num.natAbs,false,digits q.den⟩
theorem FL.xl{qs:List Rat}(h:FL w A n c qs):XL w A n c (qs.map dfQ):=by
 have hl:=h.len;refine⟨by rw[Qm,hl],h.cap.1,h.cap.2,λk d hd=>?_⟩;rw[Qg]at hd;obtain⟨q,hq,rfl⟩:=Option.map_eq_some_iff.1 hd;have hk:k<n:=by have:=(List.getElem?_eq_some_iff.1 hq).1;omega
 obtain⟨g,o,na,A1,n1,c1,nb,B,m,d,e1,e2,e3⟩:=h.at_ hk;rw[hq,Qk]at e3;have h1:=e3.1.1;have h2:=e3.2.1;have h3:=e3.2.2.2;rw[Qu]at h3;have h4:nb=false:=by rw[h2];exact decide_eq_false (by omega)
 subst h1 h4;exact⟨g,o,_,_,_,_,_,_,e1,e2,e3.1.2.2,h3⟩
theorem MFL.xm{Q:List (List Rat)}(h:MFL w A n c Q):XM w A n c (Q.map λr=>r.map dfQ):=by
 refine⟨by rw[Qm,h.1],h.2.1,h.2.2.1,λk d hd=>?_⟩;rw[Qg]at hd;obtain⟨r,hr,rfl⟩:=Option.map_eq_some_iff.1 hd;have hk:k<n:=by have:=(List.getElem?_eq_some_iff.1 hr).1;rw[h.1]at this;exact this
 obtain⟨g,o,A1,n1,c1,e1,e3,e4⟩:=h.at_ hk;rw[hr,Qk]at e4;exact⟨g,o,_,_,_,e1,e3,e4.xl⟩
theorem XM.nil(w:World):XM w none 0 0 []:=⟨rfl,Qd _,QO _,λk d hd=>(by cases hd)⟩
end
theorem Zo6(A B:Option Addr)(n c d:Nat)(ds:List DF)(w:World)(ha:XL w A n c ds)(hb:XL w B n d ds) :
    Calls Tryz.prog 52 #[.slice A n c,.slice B n d] w λe w'=>e=.returned (.bool true)/\Below w.heap.size w w':=by
 have hmx:Tryz.prog.follows .mixedOrders=true:=by kernel_rfl
 have hl:=Za ha.1;have hc:=ha.2.1;have a2:=ha.2.2.1;have hd:=hb.2.1;have a3:=hb.2.2.1;unfold maxLen at a2 a3;replace ha:=Za ha;replace hb:=Za hb;have t0:(((n:Int)) != (n:Int))=false:=by simp
 go_enter Tryz.func52,Tryz.ntmps52;go_wp2_with fail
 go_loopg [5] n (λk iv wr=>∃ i:Nat,i+k=n/\iv=.int .i64 i/\Below w.heap.size w wr)
 case atStart=>exact⟨0,by omega,rfl,Qc _ _⟩
 case round =>
  obtain⟨i,a5,rfl,hB⟩:=hrel;cases gk with
  | zero =>
   obtain rfl:i=n:=by omega
   have t1:decide ((i:Int)<(i:Int))=false:=by simp
   go_wp2_with fail;go_ret;exact⟨rfl,hB⟩
  | succ k' =>
   obtain rfl:k'=n-(i+1):=by omega
   have a1:i<n:=by omega
   have t1:decide ((i:Int)<(n:Int))=true:=decide_eq_true (by omega);have bi:(i:Int)<(n:Int):=by omega
   obtain⟨x,hx⟩:=Zal (L:=ds) (i:=i) (by rw[hl.out];exact a1);obtain⟨g,o,A1,n1,c1,B1,m1,d1,rfl,⟨r0,r1,r2,r3⟩,l1,l2⟩:=(ha.out.below hB).2.2.2 i x hx;obtain⟨g',o',Y,J,T,U,O,V,rfl,⟨s0,s1,s2,s3⟩,y,I⟩:=(hb.out.below hB).2.2.2 i x hx;replace l1:=Za l1;replace l2:=Za l2;replace y:=Za y;replace I:=Za I;go_wp2_with fail;obtain⟨X0,u⟩:∃ X,wr.drew=X:=⟨_,rfl⟩;have h:Below wr.heap.size wr X0:=by rw[<- u];exact Zf (Qc _ _) 1
   have f:Hid (∀ wx,Below wr.heap.size wr wx->wx.cell? ⟨g,o+i*4,none⟩=some (.bool x.na)/\wx.cell? ⟨g,o+i*4+1,none⟩=some (.slice A1 n1 c1)/\wx.cell? ⟨g,o+i*4+2,none⟩=some (.bool x.nb)/\wx.cell? ⟨g,o+i*4+3,none⟩=some (.slice B1 m1 d1)/\wx.cell? ⟨g',o'+i*4,none⟩=some (.bool x.na)/\wx.cell? ⟨g',o'+i*4+1,none⟩=some (.slice Y J T)/\wx.cell? ⟨g',o'+i*4+2,none⟩=some (.bool x.nb)/\wx.cell? ⟨g',o'+i*4+3,none⟩=some (.slice U O V)):=Za (λwx hbx=>⟨Zb hbx r0,Zb hbx r1,Zb hbx r2,Zb hbx r3,Zb hbx s0,Zb hbx s1,Zb hbx s2,Zb hbx s3⟩);refine wp_heldS [] hmx f (by rw[u];exact h) (λhxs=>?_);rw[u];refine Zje 8 [0,1,2,3,4,5,6,7] rfl (by kernel_rfl) (f.out _ h) ?_
   iterate 8 (refine tk1 (v:=?_) rfl (Ql ⟨by kernel_rfl,?_⟩) ?_;rotate_left;(· intro W2 hSw;(try dsimp only at hSw);go_simp;try with_reducible rfl);try simp only[Qa,Zgy,Zge,Zgs,putG_a,putG_s,putG_z])
   refine tk0 ?_;refine Ze (i:=8) rfl (by kernel_rfl) (λK hK=>?_);go_simp;refine(Zrs x.na x.nb A1 B1 Y U n1 c1 m1 d1 J T O V x.la x.lb X0 (l1.out.below h) (l2.out.below h) (y.out.below h) (I.out.below h)).mono ?_;rintro e w3 ⟨rfl,a4⟩;have C:=h.trans (a4.mono h.size);have a0:=hB.trans (C.mono hB.size);refine hK.out _ _ (λ_=>f.out _ C) ?_;clear hK K
   try simp only[Qa,Zgy,Zge,Zgs]
   refine Zgf 1 [9] rfl (by kernel_rfl) (f.out _ C) ?_
   (refine tk1 (v:=?_) rfl (Ql ⟨by kernel_rfl,?_⟩) ?_;rotate_left;(· intro W2 _;go_simp;try with_reducible rfl);try simp only[Qa,Zgy,Zge,Zgs,putG_a,putG_s,putG_z])
   refine tk0 ?_;refine Zj (by kernel_rfl) ?_ _;refine Qh ?_;clear hxs f;go_wp2_with fail
   go_roundg (n-(i+1))
   case measure=>omega
   case rel=>exact⟨i+1,by omega,by go_num,a0⟩
theorem Zuo(A B:Option Addr)(n c d:Nat)(D:List (List DF))(w:World)(ha:XM w A n c D)(hb:XM w B n d D) :
    Calls Tryz.prog 12 #[.slice A n c,.slice B n d] w λe w'=>e=.returned (.bool true)/\Below w.heap.size w w':=by
 have hmx:Tryz.prog.follows .mixedOrders=true:=by kernel_rfl
 have hl:=Za ha.1;have hc:=ha.2.1;have V:=ha.2.2.1;have hd:=hb.2.1;have Y:=hb.2.2.1;unfold maxLen at V Y;replace ha:=Za ha;replace hb:=Za hb;have t0:(((n:Int)) != (n:Int))=false:=by simp
 go_enter Tryz.func12,Tryz.ntmps12;go_wp2_with fail
 go_loopg [5] n (λk iv wr=>∃ i:Nat,i+k=n/\iv=.int .i64 i/\Below w.heap.size w wr)
 case atStart=>exact⟨0,by omega,rfl,Qc _ _⟩
 case round =>
  obtain⟨i,a1,rfl,hB⟩:=hrel;cases gk with
  | zero =>
   obtain rfl:i=n:=by omega
   have t1:decide ((i:Int)<(i:Int))=false:=by simp
   go_wp2_with fail;go_ret;exact⟨rfl,hB⟩
  | succ k' =>
   obtain rfl:k'=n-(i+1):=by omega
   have U:i<n:=by omega
   have t1:decide ((i:Int)<(n:Int))=true:=decide_eq_true (by omega);have bi:(i:Int)<(n:Int):=by omega
   obtain⟨x,hx⟩:=Zal (L:=D) (i:=i) (by rw[hl.out];exact U);obtain⟨g,o,A1,n1,c1,rfl,r0,l1⟩:=(ha.out.below hB).2.2.2 i x hx;obtain⟨g',o',O,u,J,rfl,s0,y⟩:=(hb.out.below hB).2.2.2 i x hx;obtain rfl:u=n1:=by rw[<- l1.1,<- y.1]
   replace l1:=Za l1;replace y:=Za y;go_wp2_with fail;obtain⟨X0,C⟩:∃ X,wr.drew=X:=⟨_,rfl⟩;have h:Below wr.heap.size wr X0:=by rw[<- C];exact Zf (Qc _ _) 1
   have f:Hid (∀ wx,Below wr.heap.size wr wx->wx.cell? ⟨g,o+i,none⟩=some (.slice A1 u c1)/\wx.cell? ⟨g',o'+i,none⟩=some (.slice O u J)):=Za (λwx hbx=>⟨Zb hbx r0,Zb hbx s0⟩);refine wp_heldS [] hmx f (by rw[C];exact h) (λhxs=>?_);rw[C];refine Zje 8 [0,1,2,3,4,5,6,7] rfl (by kernel_rfl) (f.out _ h) ?_
   iterate 8 (refine tk1 (v:=?_) rfl (Ql ⟨by kernel_rfl,?_⟩) ?_;rotate_left;(· intro W2 hSw;(try dsimp only at hSw);go_simp;try with_reducible rfl);try simp only[Qa,Zgy,Zge,Zgs,putG_a,putG_s,putG_z])
   refine tk0 ?_;refine Ze (i:=8) rfl (by kernel_rfl) (λK hK=>?_);go_simp;refine(Zo6 A1 O u c1 J x X0 (l1.out.below h) (y.out.below h)).mono ?_;rintro e w3 ⟨rfl,a0⟩;have I:=h.trans (a0.mono h.size);have T:=hB.trans (I.mono hB.size);refine hK.out _ _ (λ_=>f.out _ I) ?_;clear hK K
   try simp only[Qa,Zgy,Zge,Zgs]
   refine Zgf 1 [9] rfl (by kernel_rfl) (f.out _ I) ?_
   (refine tk1 (v:=?_) rfl (Ql ⟨by kernel_rfl,?_⟩) ?_;rotate_left;(· intro W2 _;go_simp;try with_reducible rfl);try simp only[Qa,Zgy,Zge,Zgs,putG_a,putG_s,putG_z])
   refine tk0 ?_;refine Zj (by kernel_rfl) ?_ _;refine Qh ?_;clear hxs f;go_wp2_with fail
   go_roundg (n-(i+1))
   case measure=>omega
   case rel=>exact⟨i+1,by omega,by go_num,T⟩
theorem Zii{rs:List RI}{rr ws:List Int}(h:Zc1 rs rr ws=0):rs.length<=200/\(∀ r ∈ rs,r.n<=12)/\n0I rs≠0/\ws.length=rs.length/\rr.length=rs.length/\Zem 1 ws=false/\Zem (-1099511627776) rr=false/\∀ r ∈ rs,r.n=n0I rs/\Zem (-1099511627776) r.l=false:=by
 unfold Zc1 at h
 split at h
 cases h
 ·rename_i h1
  split at h
  ·rename_i h2
   simp only[Zd1,Bool.or_eq_true,decide_eq_true_eq,not_or,Ya,not_exists,RI.long,not_and]at h1;simp only[Zo2,Bool.and_eq_true,Bool.not_eq_true',decide_eq_false_iff_not,decide_eq_true_eq,List.all_eq_true,Zhr]at h2;obtain⟨a1,a2,a3,a4,a5,a6⟩:=h2;exact⟨by omega,λr hr=>by have:=h1.2 r hr;omega,a1,a2,a3,a4,a5,a6⟩
  cases h
theorem Ztw{P:Program}(t e:TypeId){i:TypeInfo}(ht:P.underlying t=some (.slice e))(hi:P.info? e=some i)(hz:i.zero=some (.int .i64 0))(hs:i.size=1)(hb:i.bytes=8)
    (x:Int) (n:Nat) (hx:x=n) (hn:n<=1000000000000) (W:World) :
    (Instr.makeSlice t (.int .i64 x) (.int .i64 x)).run P W=.ok (.slice (some ⟨W.heap.size,0,none⟩) n n) (W.alloc (.cells (madeCells #[.int .i64 0] n) e)):=by
 subst hx;have hr:=run_make (P:=P) W t e i _ ht hi hz .i64 .i64 n n (by omega) (by omega) (by rw[hb];omega) (by omega);simp only[Int.toNat_natCast]at hr;rw[hr,hs,Nat.mul_one];rfl
theorem LimI.zeros{w:World}{g:Nat}{t:TypeId}{n:Nat}(h:Blk w g t (madeCells #[.int .i64 0] n))(hn:n<=maxLen):LimI w (some ⟨g,0,none⟩) n n (Qe n 0):=by
 refine⟨by simp,Qd _,hn,λx hx=>?_,λ_=>⟨g,0,rfl,λk hk=>?_⟩⟩;rw[List.eq_of_mem_replicate hx];unfold I64;decide
 ·rw[QD,h.cell,Qo,if_pos hk]
  unfold madeCells;simp[hk,Nat.mod_one]
theorem Zty:(Tryz.prog.info? 2).map (λi=>(i.zero,i.size,i.bytes))=some (some (.int .i64 0),1,8):=by kernel_rfl
def RS.cut(r:RS):RS:=⟨r.A,r.n-1,r.c⟩
def Zib(rs:List RS)(i:Nat):List RS:=(rs.take i).map RS.cut++rs.drop i
theorem Zu1(rs:List RS):Zib rs 0=rs:=by simp[Zib]
theorem Zyj(rs:List RS):Zib rs rs.length=rs.map RS.cut:=by simp[Zib]
theorem Zpv(rs:List RS)(i:Nat):(Zib rs i).length=rs.length:=by simp[Zib];omega
theorem Zyd{rs:List RS}{i:Nat}{r:RS}(h:rs[i]?=some r)(zs:List RS):(Zib rs i++zs)[i]?=some r:=by
 have hi:=(List.getElem?_eq_some_iff.1 h).1;rw[Qw (by rw[Zpv];exact hi)];unfold Zib;rw[QJ (by simp;omega)];simp only[Qm,Qx,Yd (QE hi),QS,List.getElem?_drop,QU];exact h
theorem Zwq{rs:List RS}{i:Nat}{r:RS}(h:rs[i]?=some r)(zs:List RS):(Zib rs i++zs).set i r.cut=Zib rs (i+1)++zs:=by
 have hi:=(List.getElem?_eq_some_iff.1 h).1;have hr:rs[i]=r:=(List.getElem?_eq_some_iff.1 h).2;rw[List.set_append_left _ _ (by rw[Zpv];exact hi)];congr 1;unfold Zib;rw[QQ _ _ (by simp;omega)];simp only[Qm,Qx,Yd (QE hi),QS];rw[List.drop_eq_getElem_cons hi,QT,Qn,Qb hi,hr];simp
theorem FL.keptS{w w':World}{A:Option Addr}{n c:Nat}{qs:List Rat}{go:Nat}{tS:TypeId}{rs:List RS}(h:FL w A n c qs)(hk:Kept (λg=>g=go) w w')(hb:Blk w go tS (Zx rs)):FL w' A n c qs:=by
 have hG:∀ k,(λg=>g=go) k->∃ t cs,Blk w k t cs/\NoLimb cs:=λk e=>by
  cases e;exact⟨_,_,hb,Zas rs⟩
 obtain⟨es,h1,h2,h3,h4,h5,h6⟩:=h;refine⟨es,h1,h2,h3,λe he=>⟨hk.wd (h4 e he).1 hG,hk.wd (h4 e he).2 hG⟩,h5,λhn=>?_⟩;obtain⟨g,o,e1,hc⟩:=h6 hn;refine⟨g,o,e1,λk e he=>?_⟩;obtain⟨a,b,c',d⟩:=hc k e he
 have u:g≠go:=λe'=>by
  subst e';rw[hb.cell]at a;unfold Zx at a;simp only[List.getElem?_toArray,Zb9,Qg,QP]at a;obtain⟨r,-,hr⟩:=a;cases hr
 have f:∀ (j:Nat) (v:Value),w.cell? ⟨g,j,none⟩=some v->w'.cell? ⟨g,j,none⟩=some v:=λj v hv=>by
  rw[<- hv];exact QF (hk.block g (Zo hv) u)
 exact⟨f _ _ a,f _ _ b,f _ _ c',f _ _ d⟩
theorem Zqc(A C:Option Addr)(n c k e0:Nat)(rs:List RI)(ws:List Int)(w:World)(h:MIL w A n c rs)(hw:LimI w C k e0 ws)(E:Int)(hE:Zc1 rs (List.replicate (min n 200) 0) ws=E)(h0:E≠0) :
    Calls Tryz.prog 15 #[.slice A n c,.slice C k e0] w λe w'=>e=.returned (.tuple #[.slice none 0 0,.int .i64 E])/\Below w.heap.size w w':=by
 obtain⟨iI,ji,O,I,J⟩:=info_parts Zty;have hn:=Qj h.2.1 h.2.2.1;unfold maxLen at hn;have o:min (n:Int) 200=((min n 200:Nat):Int):=by omega
 have hk:min n 200<=200:=by omega
 obtain⟨q,hq⟩:∃ q,min n 200=q:=⟨_,rfl⟩;rw[hq]at o hk hE;have t1:decide (E≠0)=true:=decide_eq_true h0;have V:(E != 0)=true:=by simpa using h0
 have T:(E == 0)=false:=by simpa using h0
 have U:=Ztw (P:=Tryz.prog) 23 2 Tryz.underlying23 ji O I J (q:Int) q rfl (by omega) w;obtain⟨W0,y,f,q0,s0⟩:=Zax w 2 (madeCells #[.int .i64 0] q);have hC:=Za (Zkw A (some ⟨w.heap.size,0,none⟩) C n c q q k e0 rs (Qe q 0) ws W0 (h.below f) (LimI.zeros q0 (by unfold maxLen;omega)) (hw.below f) E hE);clear q0 h hw hE hq;replace h0:=Za h0;go_enter Tryz.func15,Tryz.ntmps15;go_wp2_with fail;(try rw[y]);refine hC.out.mono ?_;rintro e w1 ⟨rfl,u⟩;go_wp2_with fail;go_returns;exact⟨rfl,f.trans (u.mono f.size)⟩
def Zbz(rs:List RI)(ws:List Int)(n m:Nat):List (List Rat):=(Qr m).map λi=>(Qr m).map λk=>((Zbp ws (Zb8 rs i) (Zb8 rs k) n:Int):Rat)
theorem Zvo(rs:List RI)(rr ws:List Int)(n m:Nat):(Zn0 rs rr ws n m).map (λq=>q.take m)=Zbz rs ws n m:=by
 unfold Zn0 Zbz;rw[List.map_map];refine QG λi _=>?_;show (Zfx rs rr ws n m i).take m=_;unfold Zfx;rw[List.take_append_of_le_length (by simp),Qs (by simp)]
theorem Zta(A C:Option Addr)(n c e0 m:Nat)(rs:List RI)(ws:List Int)(w:World)(h:MIL w A n c rs)(hw:LimI w C n e0 ws)(hE:Zc1 rs (List.replicate n 0) ws=0)(hm:n0I rs=m) :
    Calls Tryz.prog 15 #[.slice A n c,.slice C n e0] w λe w'=>∃ go,e=.returned (.tuple #[.slice (some ⟨go,0,none⟩) m m,.int .i64 0])/\Below w.heap.size w w'/\MFL w' (some ⟨go,0,none⟩) m m (Zbz rs ws n m):=by
 obtain⟨iI,ji,b6,b4,c0⟩:=info_parts Zty;obtain⟨f1,f2,f3,f4,f5,f6,f7,f8⟩:=Zii hE;have hl:=h.1;rw[hl]at f1;rw[hm]at f3
 have b1:0<n:=by
  rcases Nat.eq_zero_or_pos n with h0|h0
  ·exfalso
   have:rs=[]:=List.eq_nil_of_length_eq_zero (by omega);subst this;exact f3 (by rw[<- hm];rfl)
  exact h0
 have y:∀ r ∈ rs,r.n=m:=λr hr=>by rw[(f8 r hr).1,hm]
 have c4:m<=12:=by
  obtain⟨_,_,r0,_,c1,_⟩:=h.at_ (i:=0) b1;have h1:=Qq c1;rw[<- y r0 h1];exact f2 r0 h1
 have b9:0<m:=by omega
 have c5:min (n:Int) 200=(n:Int):=by omega
 have b8:=Ztw (P:=Tryz.prog) 23 2 Tryz.underlying23 ji b6 b4 c0 (n:Int) n rfl (by omega) w;obtain⟨W0,b7,u,q0,s0⟩:=Zax w 2 (madeCells #[.int .i64 0] n);have hZ:=Za (LimI.zeros q0 (by unfold maxLen;omega));have hM:=Za (h.below u);have a0:=Za (hw.below u);clear q0 h hw f2 f3 f4 f5 f6 f7 f8;replace hE:=Za hE;replace hm:=Za hm;replace hl:=Za hl;replace y:=Za y;go_enter Tryz.func15,Tryz.ntmps15;go_wp2_with fail;(try rw[b7]);refine(Zkw A (some ⟨w.heap.size,0,none⟩) C n c n n n e0 rs (Qe n 0) ws W0 hM.out hZ.out a0.out 0 hE.out).mono ?_;rintro e w1 ⟨rfl,o⟩;go_wp2_with fail;refine(Zrr A (some ⟨w.heap.size,0,none⟩) C n c n e0 m rs (Qe n 0) ws w1 (hM.out.below o) (hZ.out.below o) (a0.out.below o) b1 (by omega) b9 (by omega) y.out).mono ?_;rintro e w2 ⟨go,f,rfl,b0,a8,base,b3,c2⟩;have V:=u.trans ((o.trans (b0.mono o.size)).mono u.size);obtain⟨⟨zs,Y⟩,a6,a9,O,-⟩:=c2
 have U:∀ (i:Nat) (r:RS),f[i]?=some r->r.n=m+1/\m+1<=r.c/\r.c<=maxLen/\FL w2 r.A r.n r.c ((Zn0 rs (Qe n 0) ws n m)[i]?.getD []):=λi r hr=>by
  have hi:i<m:=by rw[<- a8];exact(List.getElem?_eq_some_iff.1 hr).1
  obtain⟨a1,a2⟩:=(O i r hr).rsn
  have a3:((Zn0 rs (Qe n 0) ws n m)[i]?.getD []).length=m+1:=by
   unfold Zn0;rw[Qg,Qp hi,QC,Qk,Zj7]
  rw[a3]at a1;have a4:=a2.cap;rw[a1]at a4;exact⟨a1,a4.1,a4.2,a2⟩
 have b2:w.heap.size<=go:=Qj (Qj (u.trans (o.mono u.size)).size b3) a6;replace U:=Za U;replace O:=Za O;replace Y:=Za Y;replace V:=Za V;clear o b0 u hM a0 hZ b8 b3 a6;go_wp2_with fail
 go_loopg [28] m (λk iv wr=>∃ i:Nat,i+k=m/\iv=.int .i64 i/\Blk wr go 35 (Zx (Zib f i++zs))/\Kept (λg=>g=go) w2 wr)
 case atStart=>exact⟨0,by omega,rfl,by rw[Zu1];exact Y.out,QM _ _⟩
 case round =>
  obtain⟨i,c6,rfl,I,hK⟩:=hrel;cases gk with
  | zero =>
   obtain rfl:m=i:=by omega
   have t2:decide ((m:Int)<(m:Int))=false:=by simp
   have c3:=V.out.trans (hK.to_below (λk hk=>by rw[hk];exact b2) V.out.size)
   have hfin:MFL wr (some ⟨go,0,none⟩) m m (Zbz rs ws n m):=by
    refine⟨by unfold Zbz;simp,Qd _,by unfold maxLen;omega,λ_=>⟨go,0,rfl,λj q hq=>?_⟩⟩;rw[<- Zvo rs (Qe n 0) ws n m,Qg,QP]at hq;obtain⟨q0,a7,rfl⟩:=hq;have hj:j<f.length:=by rw[a9];exact(List.getElem?_eq_some_iff.1 a7).1
    have hr:=Qb hj;obtain⟨a1,a2,a3,a4⟩:=U.out j _ hr;rw[a7,Qk]at a4;have a5:=(a4.keptS hK Y.out).take (k:=m) (by omega)
    have J:(Zib f m++zs)[j]?=some (f[j]).cut:=by
     rw[<- a8,Zyj,Qw (by simpa using hj),Qg,hr];rfl
    refine⟨_,_,_,by rw[QD,I.cell];exact Zbv J,?_⟩;simp only[RS.cut,a1];exact a5
   replace hfin:=Za hfin;clear I hK;go_wp2_with fail;go_returns;exact⟨go,rfl,c3,hfin.out⟩
  | succ k' =>
   obtain rfl:k'=m-(i+1):=by omega
   have c7:i<m:=by omega
   have t2:decide ((i:Int)<(m:Int))=true:=decide_eq_true (by omega);have bi:(i:Int)<(m:Int):=by omega
   obtain⟨r,hr⟩:=Zal (L:=f) (i:=i) (by omega);obtain⟨a1,a2,a3,-⟩:=U.out i r hr;have cr:=I.cell i;rw[Zbv (Zyd hr zs),a1]at cr;have zr:=I.frozen i;unfold maxLen at a3
   have T:Blk (wr.setCell ⟨go,i,none⟩ (.slice r.A m r.c)) go 35 (Zx (Zib f (i+1)++zs)):=by
    have:=I.set_ i (.slice r.A m r.c);have J:r.cut=⟨r.A,m,r.c⟩:=by simp only[RS.cut,a1];rfl
    have e2:(Zib f i++zs).set i ⟨r.A,m,r.c⟩=Zib f (i+1)++zs:=by rw[<- J,Zwq hr zs]
    rw[show Value.slice r.A m r.c=Value.slice (RS.mk r.A m r.c).A (RS.mk r.A m r.c).n (RS.mk r.A m r.c).c from rfl,Zch ⟨r.A,m,r.c⟩,e2]at this;exact this
   have b5:Hid (Kept (λg=>g=go) w2 (wr.setCell ⟨go,i,none⟩ (.slice r.A m r.c))):=Za (hK.set_ (p:=⟨go,i,none⟩) (.inl rfl) _);replace T:=Za T;have s1:((m+1:Nat):Int)-1=(m:Int):=by omega
   have s2:(m:Int)<=(r.c:Int):=by omega
   have s3:m<=r.c:=by omega
   clear I hK a1;replace hr:=Za hr;go_wp2_with fail
   go_roundg (m-(i+1))
   case measure=>omega
   case rel=>exact⟨i+1,by omega,by go_num,T.out,b5.out⟩
theorem Zi7(A:Option Addr)(n c:Nat)(l:List Int)(least:Int)(w:World)(h:LimI w A n c l)(b:Bool)(hb:Zem least l=b) :
    Calls Tryz.prog 53 #[.slice A n c,.int .i64 least] w λe w'=>e=.returned (.bool (!b))/\Below w.heap.size w w':=by
 have hl:=h.1;have Y:=h.2.1;have U:=h.2.2.1;unfold maxLen at U;have hg:=Za h.2.2.2.2;clear h;replace hl:=Za hl;replace hb:=Za hb;go_enter Tryz.func53,Tryz.ntmps53;go_wp2_with fail
 go_loopw [5] (λiv wr=>∃ i:Nat,i<=n/\iv=.int .i64 i/\Hid (∀ j,j<i->Zia least (l[j]?.getD 0)=false)/\Below w.heap.size w wr) (λiv _=>n-(intOf iv).toNat)
 case atStart=>exact⟨0,QO _,rfl,Za (λj hj=>by omega),Qc _ _⟩
 case round =>
  obtain⟨i,V,rfl,C,y⟩:=hrel;by_cases hin:i<n
  case neg =>
   obtain rfl:n=i:=by omega
   have T:decide ((n:Int)<(n:Int))=false:=by simp
   obtain rfl:b=false:=by
    rw[<- hb.out];unfold Zem;rw[List.any_eq_false];intro e he;obtain⟨j,hj,O⟩:=QR he;have:=C.out j (by rw[hl.out]at hj;exact hj);rw[Qb hj,O]at this;simp only[Qk]at this;rw[this];decide
   go_wp2_with fail;go_ret;exact⟨rfl,y⟩
  have T:decide ((i:Int)<(n:Int))=true:=decide_eq_true (by omega);obtain⟨g,o,rfl,I⟩:=hg.out (by omega);have c0:=(y.cell (Zo (I i hin))).trans (I i hin)
  have u:Zia least (l[i]?.getD 0)=true->b=true:=λhx=>by
   rw[<- hb.out];unfold Zem;rw[Ya];refine⟨l[i]?.getD 0,?_,hx⟩;have:=hl.out;rw[Qb (by omega)];exact QY _
  have f:Zia least (l[i]?.getD 0)=false->Hid (∀ j,j<i+1->Zia least (l[j]?.getD 0)=false):=λhx=>Za (λj hj=>by
   rcases Nat.lt_or_ge j i with h'|h';exact C.out j h'
   ·obtain rfl:j=i:=by omega
    exact hx)
  clear I;obtain⟨z,hz⟩:∃ z,l[i]?.getD 0=z:=⟨_,rfl⟩;rw[hz]at c0 u f;replace hz:=Za hz;replace u:=Za u;replace f:=Za f;by_cases h1:z<least
  ·have t1:decide (z<least)=true:=decide_eq_true h1
   obtain rfl:b=true:=u.out (by unfold Zia;rw[t1];rfl);go_wp2_with fail;go_ret;exact⟨rfl,y⟩
  have t1:decide (z<least)=false:=decide_eq_false h1;by_cases h2:1099511627776<z
  ·have t2:decide (1099511627776<z)=true:=decide_eq_true h2
   obtain rfl:b=true:=u.out (by unfold Zia;rw[t1,t2];rfl);go_wp2_with fail;go_ret;exact⟨rfl,y⟩
  have t2:decide (1099511627776<z)=false:=decide_eq_false h2;have J:=f.out (by unfold Zia;rw[t1,t2];rfl);clear f u;go_wp2_with fail
  go_roundw
  case rel=>exact⟨i+1,by omega,by go_num,J,(by first|exact y|exact Zf y _)⟩
  case measure=>simp[intOf];omega
theorem Zyu(A B:Option Addr)(n c m d:Nat)(rs:List RI)(i k:Nat)(w:World)(h:MIL w A n c rs)(hi:i<n)(hk:∀ r,rs[i]?=some r->k<r.n)(hn9:n<=1000)(hk9:k<=1000) :
    Calls Tryz.prog 179 #[.slice A n c,.slice B m d,.int .i64 i,.int .i64 k] w λe w'=>e=.returned (.int .i64 (Zb8 rs k i))/\Below w.heap.size w w':=by
 obtain⟨ga,oa,r,rfl,hr,c0,hL⟩:=h.at_ hi;have hl:=hL.1;have u:=hk r hr;have o:=hL.nlen;unfold maxLen at o;obtain⟨gb,ob,y,f⟩:=hL.2.2.2.2 (by omega);have c1:=f k u;rw[Ztv hr];rw[y]at c0;obtain⟨z,hz⟩:∃ z,r.l[k]?.getD 0=z:=⟨_,rfl⟩;rw[hz]at c1 ⊢;have b1:(i:Int)<(n:Int):=by omega
 have b2:(k:Int)<(r.n:Int):=by omega
 have t1:decide ((k:Int)<0)=false:=decide_eq_false (by omega);clear h hL f hr hz hk;go_enter Tryz.func179,Tryz.ntmps179;go_wp2_with fail;go_ret;exact⟨rfl,by first|exact Qc _ _|exact Zf (Qc _ _) _⟩
theorem rdot_ok(A B C:Option Addr)(n c m d e0:Nat)(i k:Int)(ws:List Int)(a b:Nat->Int)(w:World)(hw:LimI w C n e0 ws)(hn9:n<=900)
    (ha:∀ r,r<n->I64 (a r)) (hb:∀ r,r<n->I64 (b r))
    (hA:∀ (W:World) (r:Nat),Below w.heap.size w W->r<n->Calls Tryz.prog 179 #[.slice A n c,.slice B m d,.int .i64 r,.int .i64 i] W λe W'=>e=.returned (.int .i64 (a r))/\Below W.heap.size W W')
    (hB:∀ (W:World) (r:Nat),Below w.heap.size w W->r<n->Calls Tryz.prog 179 #[.slice A n c,.slice B m d,.int .i64 r,.int .i64 k] W λe W'=>e=.returned (.int .i64 (b r))/\Below W.heap.size W W') :
    Calls Tryz.prog 134 #[.slice A n c,.slice B m d,.slice C n e0,.int .i64 i,.int .i64 k] w (Zd0 w ((Zbp ws a b n:Int):Rat)):=by
 have hmx:Tryz.prog.follows .mixedOrders=true:=by kernel_rfl
 have hg:=Za hw.2.2.2.2;have h2:=Za hw.2.2.2.1;have i6:=hw.2.1;clear hw;replace hA:=Za hA;replace hB:=Za hB;have e8:=Za ha;have h3:=Za hb;clear ha hb;obtain⟨W0,f3,h7,⟨q0,q1⟩,s0⟩:=Zfa w 41 #[.bool false,.slice none 0 0,.bool false,.slice none 0 0] 39 #[.bool false,.slice none 0 0];obtain⟨gr,a0⟩:∃ g,w.heap.size=g:=⟨_,rfl⟩;rw[a0]at q0 q1;obtain⟨gs,a3⟩:∃ g,gr+1=g:=⟨_,rfl⟩;rw[a3]at q1;have i1:w.heap.size<=gr:=by omega
 have f7:w.heap.size<=gs:=by omega
 have b9:gr≠gs:=by omega
 obtain⟨x0,x1,x2,x3⟩:=q1.two;obtain⟨V,hV,h1,qv,kV⟩:=Zbe false none 0 0 h7 f7 q1;have qr:=kV.2.1 gr _ _ b9 q0;clear kV q0;go_enter Tryz.func134,Tryz.ntmps134;go_wp2_with fail;(try rw[f3]);(try rw[hV]);clear f3 hV x0 x1 x2 x3 s0 q1 h7;replace a0:=Za a0;replace a3:=Za a3;have h0:Wd V false none 0 0 0:=Wd.zero _
 go_loopw [12] (λiv wr=>∃ (r:Nat) (sn:Bool) (sA:Option Addr) (sk sc:Nat),r<=n/\iv=.int .i64 r/\Wd wr sn sA sk sc (Zbp ws a b r)/\Blk wr gs 39 #[.bool sn,.slice sA sk sc]/\Blk wr gr 41 #[.bool false,.slice none 0 0,.bool false,.slice none 0 0]/\Below w.heap.size w wr) (λiv _=>n-(intOf iv).toNat)
 case atStart=>exact⟨0,false,none,0,0,QO _,rfl,h0,qv,qr,h1⟩
 case round =>
  clear qv qr h1 h0;obtain⟨r,sn,sA,sk,sc,i5,rfl,hs,qs,qr,I⟩:=hrel;obtain⟨s0,s1,s2,s3⟩:=qs.two;replace hs:=Za hs;replace qs:=Za qs;replace qr:=Za qr;by_cases hin:r<n
  case neg =>
   obtain rfl:n=r:=by omega
   have i0:decide ((n:Int)<(n:Int))=false:=by simp
   generalize Zbp ws a b n=D at *;go_wp2_with fail;have f:Hid (∀ wx,Below wr.heap.size wr wx->wx.cell? ⟨gs,0,none⟩=some (.bool sn)/\wx.cell? ⟨gs,1,none⟩=some (.slice sA sk sc)):=Za (λwx hbx=>⟨Zb hbx s0,Zb hbx s1⟩);have hr:Below wr.heap.size wr wr.drew:=Zf (Qc _ _) 1;refine wp_heldS [3] hmx f hr (λhxs=>?_);refine Zje 1 [0] rfl (by kernel_rfl) (f.out _ hr) ?_
   (refine tk1 (v:=?_) rfl (Ql ⟨by kernel_rfl,?_⟩) ?_;rotate_left;(· intro W2 hSw;(try dsimp only at hSw);go_simp;try with_reducible rfl);try simp only[Qa,Zgy,Zge,Zgs,putG_a,putG_s,putG_z])
   refine tk0 ?_;refine Ze (i:=1) rfl (by kernel_rfl) (λK hK=>?_);go_simp;refine(Zc6 1 _ (by decide) (by decide)).mono ?_;rintro e w7 ⟨a8,n7,A7,k7,c7,rfl,b5⟩;have h:Below wr.heap.size wr w7:=hr.trans (a8.mono hr.size);refine hK.out _ _ (λ_=>f.out _ h) ?_;clear hK K
   try simp only[Qa,Zgy,Zge,Zgs]
   refine Zgf 1 [2] rfl (by kernel_rfl) (f.out _ h) ?_
   (refine tk1 (v:=?_) rfl (Ql ⟨by kernel_rfl,?_⟩) ?_;rotate_left;(· intro W2 _;go_simp;try with_reducible rfl);try simp only[Qa,Zgy,Zge,Zgs,putG_a,putG_s,putG_z])
   refine tk0 ?_;have d7:=Zd h qr.out;have g2:=I.trans (h.mono I.size);have Y:Fr w7 sn sA sk sc n7 A7 k7 c7 (D:Rat):=⟨by rw[Rat.num_intCast];exact hs.out.below h,by rw[Rat.den_intCast];exact b5⟩;obtain⟨W9,a1,U,q9,k9⟩:=Zaa sn sA sk sc n7 A7 k7 c7 g2 i1 d7;have y:=Za (Fr.keep Y k9.1);obtain⟨y0,y1,y2,y3,y4,y5,y6,y7⟩:=d7.four;obtain⟨z0,z1,z2,z3,-⟩:=q9.four;refine Zm (i:=3) rfl (by kernel_rfl) (by kernel_rfl) (λK hK=>?_);go_simp;(try rw[a1]);refine hK.out _ _ ?_;clear hK K
   try simp only[Qa,Zgy,Zge,Zgs]
   refine Zj (by kernel_rfl) ?_ _;refine Qh ?_;clear a1 y0 y1 y2 y3 y4 y5 y6 y7 h hr f hxs Y d7 k9 a8 s0 s1 s2 s3 g2;go_wp2_with fail;refine bodyPost_ret (v:=.agg #[.bool sn,.slice sA sk sc,.bool n7,.slice A7 k7 c7]) (by simp[results,Tryz.results134,go_sem,z0,z1,z2,z3]) rfl ?_;exact⟨U,_,_,_,_,_,_,_,_,rfl,y.out⟩
  have i0:decide ((r:Int)<(n:Int))=true:=decide_eq_true (by omega);have bi:(r:Int)<(n:Int):=by omega
  obtain⟨g,o,rfl,d8⟩:=hg.out (by omega);have ci:=(I.cell (Zo (d8 r hin))).trans (d8 r hin);clear d8;have hx:=Zh8 h2.out r;have ha:=e8.out r hin;have b4:=h3.out r hin;have J:(Zbp ws a b r+(ws[r]?.getD 0)*(a r*b r)).natAbs<pw 4096:=Zou (i:=r+1) h2.out (by omega) (λj hj=>⟨e8.out j (by omega),h3.out j (by omega)⟩);have u:Zbp ws a b (r+1)=Zbp ws a b r+(ws[r]?.getD 0)*(a r*b r):=rfl;obtain⟨x,e2⟩:∃ x,ws[r]?.getD 0=x:=⟨_,rfl⟩;rw[e2]at hx ci u J;replace J:=Za J;replace u:=Za u;replace e2:=Za e2;go_wp2_with fail;refine(hA.out wr r I hin).mono ?_;rintro e w1 ⟨rfl,e4⟩;go_wp2_with fail;refine(Zc6 (a r) w1 ha.1 ha.2).mono ?_;rintro e w2 ⟨g7,n2,A2,k2,c2,rfl,g9⟩;have b0:=e4.trans (g7.mono e4.size);go_wp2_with fail;refine(hB.out w2 r (I.trans (b0.mono I.size)) hin).mono ?_;rintro e w3 ⟨rfl,d0⟩;go_wp2_with fail;refine(Zc6 (b r) w3 b4.1 b4.2).mono ?_;rintro e w4 ⟨e5,n4,A4,k4,c4,rfl,h5⟩;have b3:=d0.trans (e5.mono d0.size);have e3:=b0.trans (b3.mono b0.size);obtain⟨W5,h4,b6,⟨p0,p1⟩,s5⟩:=Zfa w4 39 #[.bool n2,.slice A2 k2 c2] 39 #[.bool n4,.slice A4 k4 c4];have g4:=b3.trans (b6.mono b3.size);have e1:=e3.trans (b6.mono e3.size);have i2:=Zsg ha b4;obtain⟨x0,x1,x2,x3⟩:=p0.two;obtain⟨y0,y1,y2,y3⟩:=p1.two;have h8:(a r*b r*x).natAbs<pw 4096:=by rw[Int.mul_comm];exact Zm3 hx ha b4
  go_wp2_with fail;(try rw[h4]);refine(Zgm n2 n4 A2 A4 k2 c2 k4 c4 _ _ W5 (g9.below g4) (h5.below b6)).mono ?_;rintro e w6 ⟨f8,n6,A6,k6,c6,code,rfl,hR⟩;have g6:=hR.small i2;have b1:=e1.trans (f8.mono e1.size);obtain⟨V6,g5,b2,d3,g1,-,i4⟩:=Zt 39 #[.bool n6,.slice A6 k6 c6] b1 b1.size;obtain⟨gw,a7⟩:∃ g,w6.heap.size=g:=⟨_,rfl⟩;rw[a7]at d3;have f9:=Za (g1 _ _ _ _ _ g6);have f6:wr.heap.size<=gw:=by rw[<- a7];exact b1.size
  clear g6 g9 h5 g7 d0 e5 b6 f8 b3 g4 e4 b0 e3 e1 b1 g1 hR s5 x0 x1 x2 x3 y0 y1 y2 y3 p0 p1;go_wp2_with fail;(try rw[g5]);(try rw[a7]);replace a7:=Za a7;have c1:=Zb b2 ci;obtain⟨x0,x1,x2,x3⟩:=d3.two;clear g5 h4;have f:Hid (∀ wx,Below V6.heap.size V6 wx->wx.cell? ⟨gw,0,none⟩=some (.bool n6)/\wx.cell? ⟨gw,1,none⟩=some (.slice A6 k6 c6)/\wx.cell? ⟨g,o+r,none⟩=some (.int .i64 x)):=Za (λwx hbx=>⟨Zb hbx x0,Zb hbx x1,Zb hbx c1⟩);have hr:Below V6.heap.size V6 V6.drew:=Zf (Qc _ _) 1;refine wp_heldS [10] hmx f hr (λhxs=>?_);refine Zje 1 [0] rfl (by kernel_rfl) (f.out _ hr) ?_
  (refine tk1 (v:=?_) rfl (Ql ⟨by kernel_rfl,?_⟩) ?_;rotate_left;(· intro W2 hSw;(try dsimp only at hSw);go_simp;try with_reducible rfl);try simp only[Qa,Zgy,Zge,Zgs,putG_a,putG_s,putG_z])
  refine tk0 ?_;refine Zgf 3 [1,2,3] rfl (by kernel_rfl) (f.out _ hr) ?_
  iterate 3 (refine tk1 (v:=?_) rfl (Ql ⟨by kernel_rfl,?_⟩) ?_;rotate_left;(· intro W2 _;go_simp;try with_reducible rfl);try simp only[Qa,Zgy,Zge,Zgs,putG_a,putG_s,putG_z])
  refine tk0 ?_;refine Zje 1 [4] rfl (by kernel_rfl) (f.out _ hr) ?_
  (refine tk1 (v:=?_) rfl (Ql ⟨by kernel_rfl,?_⟩) ?_;rotate_left;(· intro W2 hSw;(try dsimp only at hSw);go_simp;try with_reducible rfl);try simp only[Qa,Zgy,Zge,Zgs,putG_a,putG_s,putG_z])
  refine tk0 ?_;refine Ze (i:=5) rfl (by kernel_rfl) (λK hK=>?_);go_simp;refine(Zc6 x _ hx.1 hx.2).mono ?_;rintro e w7 ⟨a8,n7,A7,k7,c7,rfl,b5⟩;have h:Below V6.heap.size V6 w7:=hr.trans (a8.mono hr.size);refine hK.out _ _ (λ_=>f.out _ h) ?_;clear hK K
  try simp only[Qa,Zgy,Zge,Zgs]
  refine Ze (i:=6) rfl (by kernel_rfl) (λK hK=>?_);go_simp;refine(Zgm n6 n7 A6 A7 k6 c6 k7 c7 _ _ w7 (f9.out.below h) b5).mono ?_;rintro e w8 ⟨g0,n8,A8,k8,c8,i3,rfl,e6⟩;have Y:=e6.small h8;have a2:Below V6.heap.size V6 w8:=h.trans (g0.mono h.size);refine hK.out _ _ (λ_=>f.out _ a2) ?_;clear hK K e6
  try simp only[Qa,Zgy,Zge,Zgs]
  refine Zgf 3 [7,8,9] rfl (by kernel_rfl) (f.out _ a2) ?_
  iterate 3 (refine tk1 (v:=?_) rfl (Ql ⟨by kernel_rfl,?_⟩) ?_;rotate_left;(· intro W2 _;go_simp;try with_reducible rfl);try simp only[Qa,Zgy,Zge,Zgs,putG_a,putG_s,putG_z])
  refine tk0 ?_;have d4:=Zd a2 d3;have h6:=b2.trans (a2.mono b2.size);obtain⟨W9,a1,U,q9,k9⟩:=Zbe n8 A8 k8 c8 h6 f6 d4;have y:=k9.1 _ _ _ _ _ Y;obtain⟨y0,y1,y2,y3⟩:=d4.two;refine Zm (i:=10) rfl (by kernel_rfl) (by kernel_rfl) (λK hK=>?_);go_simp;(try rw[a1]);refine hK.out _ _ ?_;clear hK K
  try simp only[Qa,Zgy,Zge,Zgs]
  refine Zj (by kernel_rfl) ?_ _;refine Qh ?_;clear a1 y0 y1 y2 y3 h a2 hr f hxs f9 b5 Y d4 k9 a8 g0 x0 x1 x2 x3 c1 ci h6 b2;have d5:=Zd U qs.out;have f5:=Zd U qr.out;have a9:=hs.out.below U;have d6:=I.trans (U.mono I.size);obtain⟨z0,z1,z2,z3⟩:=d5.two;obtain⟨y0,y1,y2,y3⟩:=q9.two;replace a9:=Za a9;replace y:=Za y;clear s0 s1 s2 s3;go_wp2_with fail;refine(Zui sn n8 sA A8 sk sc k8 c8 _ _ W9 a9.out y.out).mono ?_;rintro e i8 ⟨T,g8,f0,e9,f4,h9,rfl,b8⟩;have O:Zbp ws a b r+a r*b r*x=Zbp ws a b (r+1):=by rw[u.out,Int.mul_comm x]
  have c5:=b8.small (by rw[O,u.out];exact J.out);have c3:=d6.trans (T.mono d6.size);have a4:=Zd T d5;have c0:=Zd T f5;obtain⟨i7,b7,a6,c9,d9⟩:=Zbe g8 f0 e9 f4 c3 f7 a4;have e7:=Za (d9.1 _ _ _ _ _ c5);have a5:=d9.2.1 gr _ _ b9 c0;obtain⟨v0,v1,v2,v3⟩:=a4.two;replace c9:=Za c9;replace a5:=Za a5;replace a6:=Za a6;replace O:=Za O;clear z0 z1 z2 z3 y0 y1 y2 y3 b8 c5 d9 d5 f5 q9 T d6 c3 a9 y a4 c0;go_wp2_with fail;(try rw[b7]);clear v0 v1 v2 v3 b7
  go_roundw
  case rel=>exact⟨r+1,g8,f0,e9,f4,by omega,by go_num,e7.out.same O.out,c9.out,a5.out,a6.out⟩
  case measure=>simp[intOf];omega
def Zfg(rs:List RI)(ws:List Int)(n m i:Nat):List Rat:=(Qr m).map λk=>((Zbp ws (Zb8 rs i) (Zb8 rs k) n:Int):Rat)
theorem Zgc(rs:List RI)(ws:List Int)(n m i:Nat):(Zfg rs ws n m i).length=m:=by unfold Zfg;simp
theorem Zu8{rs:List RI}{ws:List Int}{n m i k:Nat}(h:k<m):(Zfg rs ws n m i).take k ++ [((Zbp ws (Zb8 rs i) (Zb8 rs k) n:Int):Rat)]=(Zfg rs ws n m i).take (k+1):=by
 rw[Qn];unfold Zfg;rw[Qg,Qp h];rfl
theorem Zdu(rs:List RI)(ws:List Int)(n m:Nat):(Zbz rs ws n m).length=m:=by unfold Zbz;simp
theorem nrmM_at{rs:List RI}{ws:List Int}{n m i:Nat}(h:i<m):(Zbz rs ws n m).take i ++ [Zfg rs ws n m i]=(Zbz rs ws n m).take (i+1):=by
 rw[Qn];unfold Zbz;rw[Qg,Qp h];rfl
theorem Zsi(A C:Option Addr)(n c e0 m:Nat)(rs:List RI)(ws:List Int)(w:World)(h:MIL w A n c rs)(hw:LimI w C n e0 ws)(hn0:0<n)(hn9:n<=900)(hm0:0<m)(hm9:m<=900)(o:∀ r ∈ rs,r.n=m) :
    Calls Tryz.prog 86 #[.slice A n c,.slice C n e0] w λe w'=>∃ v L,e=.returned v/\Below w.heap.size w w'/\MatOA 35 41 w' w.heap.size v L (Zbz rs ws n m):=by
 obtain⟨iF,hi,c9,c2,b4⟩:=info_parts Zdg;obtain⟨iS,ki,d5,c4,b9⟩:=info_parts Zeu;have hmx:Tryz.prog.follows .mixedOrders=true:=by kernel_rfl
 have d3:(35:TypeId)≠41:=by decide
 obtain⟨g0,o0,r0,b6,b2,a2,-⟩:=h.at_ (i:=0) hn0;have a9:=o r0 (Qq b2);rw[QU,a9]at a2;subst b6;have e1:(0:Int)<(n:Int):=by omega
 replace o:=Za o;replace h:=Za h;replace hw:=Za hw;clear b2;go_enter Tryz.func86,Tryz.ntmps86;go_wp2_with fail
 go_loopg [5,6] m (λk ov iv wr=>∃ (i:Nat) (L:List RS),i+k=m/\iv=.int .i64 i/\MatOA 35 41 wr w.heap.size ov L ((Zbz rs ws n m).take i)/\Below w.heap.size w wr)
 case atStart=>exact⟨0,[],by omega,rfl,MatOA.nil _ _ _ _,Qc _ _⟩
 case round =>
  obtain⟨i,L,d9,rfl,hM,hB⟩:=hrel;have k0:=Zb hB a2;cases gk with
  | zero =>
   obtain rfl:i=m:=by omega
   have t1:decide ((i:Int)<(i:Int))=false:=by simp
   rw[Qs (by rw[Zdu];exact Qd _)]at hM;replace hM:=Za hM;go_wp2_with fail;go_ret;exact⟨_,L,rfl,hB,hM.out⟩
  | succ j =>
   obtain rfl:j=m-(i+1):=by omega
   have b0:i<m:=by omega
   have t1:decide ((i:Int)<(m:Int))=true:=decide_eq_true (by omega);replace hM:=Za hM;go_wp2_with fail;obtain⟨b,y⟩:∃ b,wr.heap.size=b:=⟨_,rfl⟩;obtain⟨wo,rfl⟩:∃ wo:World,wo=wr:=⟨_,rfl⟩;clear k0;replace y:=Za y
   go_loopg [7,8] m (λk rv kv wx=>∃ t:Nat,t+k=m/\kv=.int .i64 t/\OwnF 41 wx b rv ((Zfg rs ws n m i).take t)/\Below b wo wx)
   case atStart=>exact⟨0,by omega,rfl,OwnF.nil _ _ _,Qc _ _⟩
   case round =>
    obtain⟨t,d8,rfl,hO,U⟩:=hrel;have a3:b<=wr.heap.size:=Qj (Nat.le_of_eq y.out.symm) U.size;have a4:w.heap.size<=b:=by rw[<- y.out];exact hB.size
    have u:Below w.heap.size w wr:=hB.trans (U.mono a4);have k1:=Zb u a2;cases gk with
    | zero =>
     obtain rfl:m=t:=by omega
     have t3:decide ((m:Int)<(m:Int))=false:=by simp
     rw[Qs (by rw[Zgc];exact Qd _)]at hO;obtain⟨vA,vc,rfl,-⟩:=hO.fl;rw[Zgc]at hO ⊢;have b1:=hM.out.kept (by rw[y.out];exact U);have f:Below wr.heap.size wr (wr.alloc (.cells #[.slice vA m vc] 35)):=(Qc _ _).alloc (Qd _) _;have T:=b1.kept f;have a0:=hO.kept f;have b7:=Zh0 wr vA m vc 35;have V:=T.1
     have d7:L.length=i:=by
      have:=hM.out.2.1;rw[this,Qx,Zdu];omega
     have c8:L.length+1<=1000:=by omega
     have J:w.heap.size<=(wr.alloc (.cells #[.slice vA m vc] 35)).heap.size:=Qj u.size f.size;have b8:=u.trans (f.mono u.size);replace T:=Za T;replace a0:=Za a0;clear b1 hO
     go_wp2_with (first
      | (at_builtin;refine Zcw _ rfl (.tmp 33) (.tmp 35) 25 rfl w.heap.size 35 iS Tryz.underlying25 ki d5 c4 b9 _ _ rfl V _ _ 1 1 [⟨vA,m,vc⟩] rfl b7 rfl c8 J ?_;intro v5 w5 c7 a5 d6))
     have O:=T.out.snoc d3 (r:=⟨vA,m,vc⟩) a0.out a4 (λs hs k hk=>by
      obtain⟨j,hj,rfl⟩:=QR hs;obtain⟨cs,a1,-,-⟩:=(hM.out.2.2.1 j _ (Qb hj)).ownBlk k hk;rw[<- y.out];exact a1.lt) c7 a5 d6
     rw[nrmM_at b0]at O;have d4:=b8.grown a5 J (λk hk=>V.row_ge k hk);replace O:=Za O
     go_roundg (m-(i+1))
     case measure=>omega
     case rel=>exact⟨i+1,_,by omega,by go_num,O.out,d4⟩
    | succ k2 =>
     obtain rfl:k2=m-(t+1):=by omega
     have a7:t<m:=by omega
     have t3:decide ((t:Int)<(m:Int))=true:=decide_eq_true (by omega);replace hO:=Za hO;go_wp2_with fail
     refine(rdot_ok (some ⟨g0,o0,none⟩) none C n c 0 0 e0 i t ws (Zb8 rs i) (Zb8 rs t) wr (hw.out.below u) hn9 (λr _=>h.out.i64 _ _) (λr _=>h.out.i64 _ _)
      (λW r hbW hr=>Zyu _ _ n c 0 0 rs r i W ((h.out.below u).below hbW) hr (λq hq=>by rw[o.out q (Qq hq)];exact b0) (by omega) (by omega))
      (λW r hbW hr=>Zyu _ _ n c 0 0 rs r t W ((h.out.below u).below hbW) hr (λq hq=>by rw[o.out q (Qq hq)];exact a7) (by omega) (by omega))).mono ?_
     rintro e w1 ⟨I,na,A1,q1,c1,nb,B1,m1,d1,rfl,hf⟩;have b3:=hO.out.kept I;have f:Below w1.heap.size w1 (w1.alloc (.cells #[.bool na,.slice A1 q1 c1,.bool nb,.slice B1 m1 d1] 41)):=(Qc _ _).alloc (Qd _) _;have a6:=b3.kept f;have c6:=hf.below f;have d0:Blk (w1.alloc (.cells #[.bool na,.slice A1 q1 c1,.bool nb,.slice B1 m1 d1] 41)) w1.heap.size 41 #[.bool na,.slice A1 q1 c1,.bool nb,.slice B1 m1 d1]:=Qy _ _ _;have c3:=(U.trans (I.mono a3)).trans (f.mono (Qj a3 I.size));have J:b<=(w1.alloc (.cells #[.bool na,.slice A1 q1 c1,.bool nb,.slice B1 m1 d1] 41)).heap.size:=Qj a3 (Qj I.size f.size);have a8:((Zfg rs ws n m i).take t).length+1<=1000:=by rw[Qx,Zgc];omega
     have hR:=Zay w1.heap.size d0;clear hf b3 I
     go_wp2_with (first
      | (at_builtin;refine Zby _ rfl (.tmp 25) (.tmp 31) 35 rfl b 41 iF Tryz.underlying35 hi c9 c2 b4 _ _ rfl a6 _ _ _ _ [⟨na,A1,q1,c1,nb,B1,m1,d1,((Zbp ws (Zb8 rs i) (Zb8 rs t) n:Int):Rat)⟩] rfl hR rfl (by intro e he;rw[Qi]at he;subst he;exact c6) a8 J ?_;intro v2 w2 c5 c0 e2))
     have Y:OwnF 41 w2 b v2 ((Zfg rs ws n m i).take (t+1)):=by
      rw[<- Zu8 a7];exact c5
     have b5:=c3.grown c0 J (λk hk=>a6.row_ge k hk);replace Y:=Za Y
     go_roundg (m-(t+1))
     case measure=>omega
     case rel=>exact⟨t+1,by omega,by go_num,Y.out,b5⟩
