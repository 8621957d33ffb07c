/- Covariances as they come in: what is valid, and how great -/
import Derived.Deep.LoopGhost
import Derived.ProofKit
import Derived.Deep.Slices
import Derived.Deep.Fields
import Derived.ChangeSame
import Derived.Test.YthappeninglakaaGreatProg
import Derived.Test.YthappeninglakaaGreatZd18
set_option maxRecDepth 100000
set_option maxHeartbeats 8000000
set_option linter.unusedSimpArgs false
set_option linter.unusedVariables false
namespace Go.Proofs.YthappeninglakaaGreat
open Go.RowKit
open List renaming getElem?_eq_getElem→Qa,getElem?_map→Qb,mem_of_getElem?→Qe,getElem_of_mem→Qh,all_eq_true→Qi,getElem?_eq_none→Qj,map_congr_left→Qk,length_map→Qm,replicate→Qn,map_map→Qq,eq_nil_of_length_eq_zero→Qr,mem_singleton→Qt,range→Qy,getElem?_range→QA,length_append→QD,any_eq_false→QE,ext_getElem?→QF,getElem?_set→QG,getElem_mem→QI,any_eq_true→QJ,ext_getElem→QK,length_set→QM
open Nat renaming le_trans→Qc,lt_or_ge→Qp,zero_le→Qs,le_refl→Qv,lt_of_le_of_lt→QB,eq_zero_or_pos→QC
open Option renaming getD_some→Qd,map_some→Qg
open Below renaming refl→Qf
open Int renaming natAbs_natCast→Ql
open Bool renaming and_eq_true→Qo,or_eq_false_iff→Qx
open Rat renaming num_divInt_den→Qu,intCast_natCast→Qz,intCast_neg→QL
open Act renaming put→Qw
open OnlyNormal renaming normal→QH
open _root_.Array renaming replicate→QN
def FX.fine64(e:FX):Bool:=decide (e.few<=64) && e.ok
def Zep(es:List FX):Bool:=es.all FX.fine64
def RX.long6(r:RX):Bool:=decide (6<r.n)
def long6(rs:List RX):Bool:=decide (6<rs.length) || rs.any RX.long6
def Zda(k:Nat)(r:RX):Bool:=decide (r.n=k) && Zep r.es
def Zjg(Q:List (List Rat)):Bool:=decide (∀ i,i<Q.length->∀ k,k<i->Zl Q i k=Zl Q k i)
def posB(A:Nat->Nat->Rat)(n:Nat):Bool:=decide (∀ t,t<n->0<dQ A t)
theorem posB_iff{A:Nat->Nat->Rat}{n:Nat}:posB A n=true ↔ posP A n:=by unfold posB posP;rw[decide_eq_true_eq]
def Zco(rs:List RX):Int:=if long6 rs=true then 4 else if rs.length=0 then 8 else if rs.all (Zda rs.length)=true then (if (Zjg (qM rs) && posB (Zl (qM rs)) rs.length)=true then 0 else 8)else 8
section
variable{rs:List RX}
theorem Zhx(h:long6 rs=true):Zco rs=4:=by unfold Zco;rw[if_pos h]
theorem Zp8(h:long6 rs=false)(h0:rs.length=0):Zco rs=8:=by unfold Zco;rw[if_neg (by simp[h]),if_pos h0]
theorem Zpu(h:long6 rs=false)(h0:rs.length≠0){r:RX}(hr:r ∈ rs)(hb:Zda rs.length r=false):Zco rs=8:=by
 unfold Zco;rw[if_neg (by simp[h]),if_neg h0,if_neg];intro e;rw[Qi]at e;have:=e r hr;rw[hb]at this;cases this
theorem symB_iff{Q:List (List Rat)}:Zjg Q=true ↔ ∀ i k,i<Q.length->k<Q.length->Zl Q i k=Zl Q k i:=by
 unfold Zjg;rw[decide_eq_true_eq];constructor
 ·intro h i k hi hk
  rcases Nat.lt_trichotomy i k with h1|h1|h1;exact(h k hk i h1).symm;rw[h1];exact h i hi k h1
 ·intro h i hi k hk
  exact h i k hi (by omega)
theorem Zyv{es:List FX}(h:Zep es=true):∀ e ∈ es,e.ok=true:=λe he=>by
 unfold Zep at h;rw[Qi]at h;have:=h e he;unfold FX.fine64 at this;rw[Qo]at this;exact this.2
end
def fewM(k:Nat)(rs:List RX):Prop:=∀ r ∈ rs,∀ e ∈ r.es,e.few<=k \/ 64<e.few
section
variable{w:World}{A:Option Addr}{n c:Nat}{rs:List RX}
theorem Zxb{e:FX}(hin:e.in_ w)(hk:e.ok=true){k:Nat}(hf:e.few<=k):(e.q).num.natAbs<=pw k/\(e.q).den<=pw k:=by
 have h1:Fr w e.na e.A e.n e.c e.nb e.B e.m e.d e.q:=Zph hin.1 hin.2 hk;have h2:=h1.1.lim.len;have h3:=h1.2.lim.len;unfold FX.few at hf;constructor
 ·have h4:=Nat.le_of_lt (Zck e.q.num.natAbs)
  rw[h2]at h4;exact Qc h4 (Zcn (by omega))
 ·have h4:=Nat.le_of_lt (Zck ((e.q.den:Int).natAbs))
  rw[h3]at h4;simp only[Ql]at h4;exact Qc h4 (Zcn (by omega))
end
def covV(rs:List RX):Prop:=long6 rs=false/\rs.length≠0/\rs.all (Zda rs.length)=true
def Zoq(rs:List RX):Prop:=covV rs->Zjg (qM rs)=true->FacP (Zl (qM rs)) rs.length
section
variable{w:World}{A:Option Addr}{n c:Nat}{rs:List RX}
theorem covV.facts(h:covV rs):0<rs.length/\rs.length<=6/\∀ r ∈ rs,r.n=rs.length/\Zep r.es=true:=by
 obtain⟨h1,h2,h3⟩:=h;unfold long6 at h1;rw[Qx]at h1;have h6:=of_decide_eq_false h1.1;refine⟨by omega,by omega,λr hr=>?_⟩;rw[Qi]at h3;have h7:=h3 r hr;unfold Zda at h7;rw[Qo,decide_eq_true_eq]at h7;exact h7
theorem covV.E(h:covV rs):Zco rs=if (Zjg (qM rs) && posB (Zl (qM rs)) rs.length)=true then 0 else 8:=by
 obtain⟨h1,h2,h3⟩:=h;unfold Zco;rw[if_neg (by rw[h1];decide),if_neg h2,if_pos h3]
theorem covV.asym(h:covV rs)(hs:Zjg (qM rs)=false):Zco rs=8:=by rw[h.E,hs];rfl
theorem covV.pos(h:covV rs)(hs:Zjg (qM rs)=true)(hp:posP (Zl (qM rs)) rs.length):Zco rs=0:=by
 rw[h.E,hs,posB_iff.2 hp];rfl
theorem covV.neg(h:covV rs)(hs:Zjg (qM rs)=true)(hp:¬ posP (Zl (qM rs)) rs.length):Zco rs=8:=by
 have:posB (Zl (qM rs)) rs.length=false:=by
  cases hb:posB (Zl (qM rs)) rs.length with
  | false=>rfl
  | true=>exact absurd (posB_iff.1 hb) hp
 rw[h.E,hs,this];rfl
theorem covV.good(hV:covV rs)(h:MXL w A n c rs):MFL w A n c (qM rs):=h.mfl λr hr=>Zyv (hV.facts.2.2 r hr).2
theorem covV.row(hV:covV rs)(h:MXL w A n c rs)(i:Nat)(hi:i<n):((qM rs)[i]?.getD []).length=n:=by
 unfold qM;rw[Qb,Qa (by rw[h.1];exact hi)];simp only[Qg,Qd,Qm];have hr:rs[i]'(by rw[h.1];exact hi) ∈ rs:=QI _;have h4:=(h.2.2.2.1 _ hr).1;rw[h4,(hV.facts.2.2 _ hr).1,h.1]
theorem covV.small(hV:covV rs)(h:MXL w A n c rs){k:Nat}(hf:fewM k rs):SmE k (qM rs):=λi j=>by
 unfold Zl qM;rw[Qb];cases hr:rs[i]? with
 | none=>exact⟨Qs _,Zc2 _⟩
 | some r =>
  simp only[Qg,Qd,Qb];cases he:r.es[j]? with
  | none=>exact⟨Qs _,Zc2 _⟩
  | some e =>
   simp only[Qg,Qd];have f:=Qe hr;have o:=Qe he;have h5:=(hV.facts.2.2 r f).2;unfold Zep at h5;rw[Qi]at h5;have h6:=h5 e o;unfold FX.fine64 at h6;rw[Qo,decide_eq_true_eq]at h6;refine Zxb ((h.2.2.2.1 r f).2.2.2.1 e o) h6.2 ?_;rcases hf r f e o with h7|h7 <;> omega
theorem covV.small64(hV:covV rs)(h:MXL w A n c rs):SmE 64 (qM rs):=hV.small h (λr _ e _=>Qp 64 e.few |>.symm)
theorem SmE.smC{k:Nat}{Q:List (List Rat)}(h:SmE k Q)(hk:k<1000)(i j:Nat):Sm (Zl Q i j):=
 ⟨QB (h i j).1 (Zfm hk),QB (h i j).2 (Zfm hk)⟩
theorem MFL.atS{w:World}{g o n c:Nat}{Q:List (List Rat)}(h:MFL w (some ⟨g,o,none⟩) n c Q){k:Nat}(hk:k<n):∃ A' n' c',w.cell? ⟨g,o+k,none⟩=some (.slice A' n' c')/\FL w A' n' c' (Q[k]?.getD []):=by
 obtain⟨g',o',A',n',c',e,h1,h2⟩:=h.at_ hk;cases e;exact⟨_,_,_,h1,h2⟩
theorem cmpQ_zero{a b:Rat}:cmpQ a b=0 ↔ a=b:=by
 unfold cmpQ;constructor
 ·intro h
  split at h
  cases h
  ·split at h
   cases h
   ·rename_i h1 h2
    exact Rat.le_antisymm (Rat.not_lt.1 h2) (Rat.not_lt.1 h1)
 ·intro h
  subst h;rw[if_neg Rat.lt_irrefl,if_neg Rat.lt_irrefl]
end
theorem Zc0{P:Program}{ops:Array Oper}{Q:Exit->Act->World->Prop}{md:Region.Mode}{L:List Nat}{S:World->Prop}{i j:Nat}{oi oj:Oper}{fuel:Nat}{listed:Array Bool}{a:Act}{w:World}(hi:ops[i]?=some oi)(hj:ops[j]?=some oj)(hr:Region.ready md ops listed=[i,j])
    (h1:∀ K':Act->World->Prop,Shut (∀ a w,(Zcv L (listed.setIfInBounds i true)=true->S w)->Zab P md ops Q L S fuel (listed.setIfInBounds i true) a w->K' a w)->if Region.wanted oi (yielded ops a.tmps)=true then Oper.wp P oi a w K' Q else K' (a.put oi.dst undef) w)
    (h2:∀ K':Act->World->Prop,Shut (∀ a w,(Zcv L (listed.setIfInBounds j true)=true->S w)->Zab P md ops Q L S fuel (listed.setIfInBounds j true) a w->K' a w)->if Region.wanted oj (yielded ops a.tmps)=true then Oper.wp P oj a w K' Q else K' (a.put oj.dst undef) w) :
    Zab P md ops Q L S (fuel+1) listed a w:=
 ⟨(λh0=>by rw[h0]at hr;cases hr),λk hk=>by
  rw[hr]at hk;rcases List.mem_cons.1 hk with e|e;subst e;exact wpOp_step hi (λK' hK=>h1 K' (λa w hS hW=>hK a w ⟨hS,hW⟩))
  ·rw[Qt]at e;subst e;exact wpOp_step hj (λK' hK=>h2 K' (λa w hS hW=>hK a w ⟨hS,hW⟩))⟩
def FacM(tS tN:TypeId)(w:World)(base:Nat)(v1 v2:Value)(rs:List RS)(Q:List (List Rat))(ds:List Rat):Prop:=
 MatOA tS tN w base v1 rs Q/\OwnF tN w base v2 ds/\∀ r ∈ rs,∀ k,r.val.ownBlock=some k->v2.ownBlock≠some k
section
variable{tS tN:TypeId}{w w':World}{base:Nat}{v v1 v1' v2 v2':Value}{rs:List RS}{Q:List (List Rat)}{ds qs:List Rat}
theorem OwnF.blt(h:OwnF tN w base v qs):∀ k,v.ownBlock=some k->k<w.heap.size:=λk hk=>by
 obtain⟨cs,hb,-,-⟩:=h.ownBlk k hk;exact hb.lt
theorem OwnF.grownO{b:Nat}(h:OwnF tN w b v qs)(hg:w.grownBy w' v2.ownBlock)(hne:∀ k,v.ownBlock=some k->v2.ownBlock≠some k)(hk:∀ (A:Option Addr) (n c:Nat) (l:List Nat),Lim w A n c l->Lim w' A n c l):OwnF tN w' b v qs:=by
 obtain⟨es,e1,e2,e3⟩:=h;refine⟨es,?_,λe he=>(e2 e he).of_keep hk,e3⟩;rcases e1 with e1|⟨g2,sp,e4,e5,e6,e7⟩;exact .inl e1
 ·exact .inr ⟨g2,sp,e4,e5,e6,(hg.block g2 e7.lt (λe=>hne g2 (by rw[e4];rfl) (by first|exact e|exact e.symm))).trans e7⟩
theorem RowS.grownR{rs:List RS}(h:RowS tS w base v1 rs)(hO:OwnF tN w base v2 ds)(hts:tS≠tN)(hg:w.grownBy w' v2.ownBlock):RowS tS w' base v1 rs:=by
 rcases h with h|⟨g',sp,h1,h2,h3,h4⟩;exact .inl h
 ·refine .inr ⟨g',sp,h1,h2,h3,(hg.block g' h4.lt (λe=>?_)).trans h4⟩
  obtain⟨cs,a,-,-⟩:=hO.ownBlk g' (by first|exact e|exact e.symm);exact hts (h4.type a)
theorem RowS.keptG{rs:List RS}(h:RowS tS w base v1 rs){g:Nat}(hg:g<base)(hk:Kept (λk=>k=g) w w'):RowS tS w' base v1 rs:=by
 rcases h with h|⟨g',sp,h1,h2,h3,h4⟩;exact .inl h;exact .inr ⟨g',sp,h1,h2,h3,hk.blk h4 (by omega)⟩
theorem FacM.nil(tS tN:TypeId)(w:World)(base:Nat):FacM tS tN w base (.slice none 0 0) (.slice none 0 0) [] [] []:=⟨MatOA.nil _ _ _ _,OwnF.nil _ _ _,λr hr=>(by cases hr)⟩
theorem FacM.kept(h:FacM tS tN w base v1 v2 rs Q ds)(hb:Below w.heap.size w w'):FacM tS tN w' base v1 v2 rs Q ds:=⟨h.1.kept hb,h.2.1.kept hb,h.2.2⟩
theorem FacM.rlt(h:FacM tS tN w base v1 v2 rs Q ds):∀ s ∈ rs,∀ k,s.val.ownBlock=some k->k<w.heap.size:=λs hs k hk=>by
 obtain⟨i,hi,e⟩:=Qh hs;exact(h.1.2.2.1 i s (by rw[Qa hi,e])).blt k hk
theorem FacM.snocL(h:FacM tS tN w base v1 v2 rs Q ds)(hts:tS≠tN){r:RS}{q:List Rat}{b:Nat}(ho:OwnF tN w b r.val q)(hb:base<=b)(hlt:∀ s ∈ rs,∀ k,s.val.ownBlock=some k->k<b)(hl2:∀ k,v2.ownBlock=some k->k<b)(h1:RowS tS w' base v1' (rs ++ [r]))(hg:w.grownBy w' v1.ownBlock)(hk:∀ (A:Option Addr) (n c:Nat) (l:List Nat),Lim w A n c l->Lim w' A n c l) :
    FacM tS tN w' base v1' v2 (rs ++ [r]) (Q ++ [q]) ds:=by
 refine⟨h.1.snoc hts ho hb hlt h1 hg hk,h.2.1.grownT hts h.1.1 hg hk,λs hs k hsk e=>?_⟩;rcases List.mem_append.1 hs with hs|hs;exact h.2.2 s hs k hsk e
 ·rw[Qt]at hs
  subst hs;have h2:=ho.row_ge k hsk;have h3:=hl2 k e;omega
theorem FacM.snocD(h:FacM tS tN w base v1 v2 rs Q ds)(hts:tS≠tN){qs:List Rat}(hO:OwnF tN w' base v2' qs)(hg:w.grownBy w' v2.ownBlock)(hk:∀ (A:Option Addr) (n c:Nat) (l:List Nat),Lim w A n c l->Lim w' A n c l)
    (hw:v2'.ownBlock=v2.ownBlock \/ ∀ k,v2'.ownBlock=some k->w.heap.size<=k):FacM tS tN w' base v1 v2' rs Q qs:=by
 refine⟨⟨h.1.1.grownR h.2.1 hts hg,h.1.2.1,λi r hr=>(h.1.2.2.1 i r hr).grownO hg (λk hk=>h.2.2 r (Qe hr) k hk) hk,h.1.2.2.2⟩,hO,λs hs k hsk e=>?_⟩;rcases hw with hw|hw;exact h.2.2 s hs k hsk (by rw[<- hw];exact e)
 ·have h2:=hw k e
  have h3:=h.rlt s hs k hsk;omega
theorem FacM.box(h:FacM tS tN w base v1 v2 rs Q ds){g:Nat}{t:TypeId}{cs:Array Value}(hb:Blk w g t cs)(hn:NoLimb cs)(hg:g<base)(hk:Kept (λk=>k=g) w w'):FacM tS tN w' base v1 v2 rs Q ds:=
 ⟨⟨h.1.1.keptG hg hk,h.1.2.1,λi r hr=>(h.1.2.2.1 i r hr).keptG hb hn (λe=>by have:=(h.1.2.2.1 i r hr).row_ge g e;omega) hk,h.1.2.2.2⟩,h.2.1.keptG hb hn (λe=>by have:=h.2.1.row_ge g e;omega) hk,h.2.2⟩
theorem MatOA.mflA(h:MatOA tS tN w base v rs Q):∃ A c,v=.slice A Q.length c/\MFL w A Q.length c Q:=by
 obtain⟨A,c,e,hM⟩:=h.1.mfl h.2.1 (λi r hr=>(h.2.2.1 i r hr).rsn.2);rw[h.2.1]at e hM;exact⟨A,c,e,hM⟩
end
theorem FL.pair2{w:World}{g:Nat}{t:TypeId}{xn:Bool}{xA:Option Addr}{xk xc:Nat}{xm:Bool}{xB:Option Addr}{xj xd:Nat}{yn:Bool}{yA:Option Addr}{yk yc:Nat}{ym:Bool}{yB:Option Addr}{yj yd:Nat}{p q:Rat}(h:Blk w g t #[.bool xn,.slice xA xk xc,.bool xm,.slice xB xj xd,.bool yn,.slice yA yk yc,.bool ym,.slice yB yj yd])(hp:Fr w xn xA xk xc xm xB xj xd p)(hq:Fr w yn yA yk yc ym yB yj yd q):FL w (some ⟨g,0,none⟩) 2 2 [p,q]:=by
 refine⟨[⟨xn,xA,xk,xc,xm,xB,xj,xd,p⟩,⟨yn,yA,yk,yc,ym,yB,yj,yd,q⟩],rfl,Qv _,by unfold maxLen;omega,λe he=>?_,rfl,λ_=>⟨g,0,rfl,λk r hr=>?_⟩⟩
 ·simp only[List.mem_cons,List.not_mem_nil,or_false]at he
  rcases he with rfl|rfl;exact hp;exact hq
 ·match k,hr with
  | 0,hr=>cases hr;exact⟨h.cell 0,h.cell 1,h.cell 2,h.cell 3⟩
  | 1,hr=>cases hr;exact⟨h.cell 4,h.cell 5,h.cell 6,h.cell 7⟩
  | k+2,hr=>simp at hr
theorem FL.sing1{w:World}{g:Nat}{t:TypeId}{na:Bool}{A:Option Addr}{n c:Nat}{nb:Bool}{B:Option Addr}{m d:Nat}{q:Rat}(h:Blk w g t #[.bool na,.slice A n c,.bool nb,.slice B m d])(hf:Fr w na A n c nb B m d q):FL w (some ⟨g,0,none⟩) 1 1 [q]:=by
 refine⟨[⟨na,A,n,c,nb,B,m,d,q⟩],rfl,Qv _,by unfold maxLen;omega,λe he=>?_,rfl,λ_=>⟨g,0,rfl,λk e hk=>?_⟩⟩;rw[Qt]at he;subst he;exact hf
 ·have f:k=0:=by have:=(List.getElem?_eq_some_iff.1 hk).1;simp at this;exact this
  subst f;cases hk;exact⟨h.cell 0,h.cell 1,h.cell 2,h.cell 3⟩
theorem FL.atS{w:World}{g o n c:Nat}{qs:List Rat}(h:FL w (some ⟨g,o,none⟩) n c qs){k:Nat}(hk:k<n):∃ na A1 n1 c1 nb B m d,At4 w g (o+k*4) na A1 n1 c1 nb B m d/\Fr w na A1 n1 c1 nb B m d (qs[k]?.getD 0):=by
 obtain⟨g',o',na,A1,n1,c1,nb,B,m,d,e,h1,h2⟩:=h.at_ hk;cases e;exact⟨_,_,_,_,_,_,_,_,h1,h2⟩
theorem Zdq(A:Option Addr)(n c:Nat)(B:Option Addr)(m d:Nat):NoLimb #[.slice A n c,.slice B m d]:=λi k=>by
 match i with
 | 0=>simp
 | 1=>simp
 | i+2=>simp
def EnvF(tS tN tX:TypeId)(w:World)(base bo gl gx:Nat)(v1 v2 V1 V2 own:Value)(rs:List RS)(Q:List (List Rat))(ds q:List Rat)(ln:Bool)(lA:Option Addr)(lk lc:Nat)(lm:Bool)(lB:Option Addr)(lj ld:Nat)(d:Rat):Prop:=
 FacM tS tN w base v1 v2 rs Q ds/\OwnF tN w bo own q/\Blk w gl tN #[.bool ln,.slice lA lk lc,.bool lm,.slice lB lj ld]/\Fr w ln lA lk lc lm lB lj ld d/\Blk w gx tX #[V1,V2]
def EnvG(tS tN tX:TypeId)(w:World)(base gl gx:Nat)(v1 v2 V1 V2:Value)(rs:List RS)(Q:List (List Rat))(ds:List Rat)(ln:Bool)(lA:Option Addr)(lk lc:Nat)(lm:Bool)(lB:Option Addr)(lj ld:Nat)(d:Rat):Prop:=
 FacM tS tN w base v1 v2 rs Q ds/\Blk w gl tN #[.bool ln,.slice lA lk lc,.bool lm,.slice lB lj ld]/\Fr w ln lA lk lc lm lB lj ld d/\Blk w gx tX #[V1,V2]
section
variable{tS tN tX:TypeId}{w w':World}{base bo gl gx:Nat}{v1 v1' v2 v2' V1 V2 own:Value}{rs:List RS}{Q:List (List Rat)}{ds q:List Rat}{ln:Bool}{lA:Option Addr}{lk lc:Nat}{lm:Bool}{lB:Option Addr}{lj ld:Nat}{d:Rat}
theorem EnvF.below(h:EnvF tS tN tX w base bo gl gx v1 v2 V1 V2 own rs Q ds q ln lA lk lc lm lB lj ld d)(hb:Below w.heap.size w w'):EnvF tS tN tX w' base bo gl gx v1 v2 V1 V2 own rs Q ds q ln lA lk lc lm lB lj ld d:=
 ⟨h.1.kept hb,h.2.1.kept hb,Zd hb h.2.2.1,h.2.2.2.1.below hb,Zd hb h.2.2.2.2⟩
theorem EnvG.below(h:EnvG tS tN tX w base gl gx v1 v2 V1 V2 rs Q ds ln lA lk lc lm lB lj ld d)(hb:Below w.heap.size w w'):EnvG tS tN tX w' base gl gx v1 v2 V1 V2 rs Q ds ln lA lk lc lm lB lj ld d:=
 ⟨h.1.kept hb,Zd hb h.2.1,h.2.2.1.below hb,Zd hb h.2.2.2⟩
theorem EnvF.cells(h:EnvF tS tN tX w base bo gl gx v1 v2 V1 V2 own rs Q ds q ln lA lk lc lm lB lj ld d):w.cell? ⟨gx,0,none⟩=some V1/\w.cell? ⟨gx,1,none⟩=some V2:=by
 have:=h.2.2.2.2;exact⟨by rw[this.cell];rfl,by rw[this.cell];rfl⟩
theorem EnvG.cells(h:EnvG tS tN tX w base gl gx v1 v2 V1 V2 rs Q ds ln lA lk lc lm lB lj ld d):w.cell? ⟨gx,0,none⟩=some V1/\w.cell? ⟨gx,1,none⟩=some V2:=by
 have:=h.2.2.2;exact⟨by rw[this.cell];rfl,by rw[this.cell];rfl⟩
theorem EnvF.left(h:EnvF tS tN tX w base bo gl gx v1 v2 V1 V2 own rs Q ds q ln lA lk lc lm lB lj ld d):w.cell? ⟨gl,0,none⟩=some (.bool ln)/\w.cell? ⟨gl,1,none⟩=some (.slice lA lk lc)/\w.cell? ⟨gl,2,none⟩=some (.bool lm)/\w.cell? ⟨gl,3,none⟩=some (.slice lB lj ld):=by
 obtain⟨a,b,c,d,-⟩:=h.2.2.1.four;exact⟨a,b,c,d⟩
theorem EnvG.left(h:EnvG tS tN tX w base gl gx v1 v2 V1 V2 rs Q ds ln lA lk lc lm lB lj ld d):w.cell? ⟨gl,0,none⟩=some (.bool ln)/\w.cell? ⟨gl,1,none⟩=some (.slice lA lk lc)/\w.cell? ⟨gl,2,none⟩=some (.bool lm)/\w.cell? ⟨gl,3,none⟩=some (.slice lB lj ld):=by
 obtain⟨a,b,c,d,-⟩:=h.2.1.four;exact⟨a,b,c,d⟩
theorem EnvF.far{t:TypeId}{g:Nat}{cs:Array Value}(h:EnvF tS tN tX w base bo gl gx v1 v2 V1 V2 own rs Q ds q ln lA lk lc lm lB lj ld d)(hts:tS≠t)(hg:w.grownBy w' v1.ownBlock)(hb:Blk w g t cs):Blk w' g t cs:=
 (hg.block g hb.lt (λe=>h.1.1.1.ownType hb hts (by first|exact e|exact e.symm))).trans hb
theorem EnvF.app(h:EnvF tS tN tX w base bo gl gx v1 v2 V1 V2 own rs Q ds q ln lA lk lc lm lB lj ld d)(hts:tS≠tN){r:RS}(hr:r.val=own)(hbb:base<=bo)(hlt:∀ s ∈ rs,∀ k,s.val.ownBlock=some k->k<bo)(hl2:∀ k,v2.ownBlock=some k->k<bo)(hgx:gx<base)(h1:RowS tS w' base v1' (rs ++ [r]))(hg:w.grownBy w' v1.ownBlock)(hk:∀ (A:Option Addr) (n c:Nat) (l:List Nat),Lim w A n c l->Lim w' A n c l) :
    EnvG tS tN tX w' base gl gx v1' v2 V1 V2 (rs ++ [r]) (Q ++ [q]) ds ln lA lk lc lm lB lj ld d:=by
 refine⟨h.1.snocL hts (hr▸h.2.1) hbb hlt hl2 h1 hg hk,h.far hts hg h.2.2.1,⟨⟨h.2.2.2.1.1.1,h.2.2.2.1.1.2.1,hk _ _ _ _ h.2.2.2.1.1.2.2⟩,⟨h.2.2.2.1.2.1,h.2.2.2.1.2.2.1,hk _ _ _ _ h.2.2.2.1.2.2.2⟩⟩,?_⟩;exact(hg.block gx h.2.2.2.2.lt (λe=>by have:=h.1.1.1.row_ge gx (by first|exact e|exact e.symm);omega)).trans h.2.2.2.2
theorem EnvG.app(h:EnvG tS tN tX w base gl gx v1 v2 V1 V2 rs Q ds ln lA lk lc lm lB lj ld d)(hts:tS≠tN)(hgx:gx<base){qs:List Rat}(hO:OwnF tN w' base v2' qs)(hg:w.grownBy w' v2.ownBlock)(hk:∀ (A:Option Addr) (n c:Nat) (l:List Nat),Lim w A n c l->Lim w' A n c l)
    (hw:v2'.ownBlock=v2.ownBlock \/ ∀ k,v2'.ownBlock=some k->w.heap.size<=k):FacM tS tN w' base v1 v2' rs Q qs/\Blk w' gx tX #[V1,V2]:=
 ⟨h.1.snocD hts hO hg hk hw,(hg.block gx h.2.2.2.lt (λe=>by have:=h.1.2.1.row_ge gx (by first|exact e|exact e.symm);omega)).trans h.2.2.2⟩
theorem Kept.grownC{G:Nat->Prop}{W0:World}{row:Option Nat}(h:Kept G W0 w)(hg:w.grownBy w' row)(hr:∀ k,row=some k->W0.heap.size<=k):Kept G W0 w':=
 ⟨hg.os.trans h.os,hg.tape.trans h.tape,hg.output.trans h.output,Qc h.size hg.size,λk hk hG=>(hg.block k (Nat.lt_of_lt_of_le hk h.size) (λe=>by have:=hr k (by first|exact e|exact e.symm);omega)).trans (h.block k hk hG)⟩
end
attribute [local go_sem] Zh
def IdxC(w:World)(b:Bool)(e:Ending)(w':World):Prop:=∃ i:Int,e=.returned (.int .i64 i)/\decide (0<=i)=b/\Below w.heap.size w w'
theorem Zws(na nb:Bool)(A B:Option Addr)(n c m d:Nat)(la lb:List Nat)(w:World)(ha:Lim w A n c la)(hb:Lim w B m d lb)(b:Bool)(hx:(decide (max n m<=64) && okF na la nb lb)=b) :
    Calls Tryz.prog 109 #[.agg #[.bool na,.slice A n c,.bool nb,.slice B m d]] w λe w'=>e=.returned (.bool (!b))/\Below w.heap.size w w':=by
 obtain⟨W0,J,f,q0,s0⟩:=Zax w 41 #[.bool na,.slice A n c,.bool nb,.slice B m d];obtain⟨a0,a1,a2,a3,-⟩:=q0.four;have u:=Qc ha.2.1 ha.2.2.1;have C:=Qc hb.2.1 hb.2.2.1;unfold maxLen at u C;obtain⟨y,hy⟩:∃ y,okF na la nb lb=y:=⟨_,rfl⟩;rw[hy]at hx;have hC:=Za (λW1 (h1:Below w.heap.size w W1)=>Zlg na nb A B n c m d la lb W1 (ha.below h1) (hb.below h1) y hy);clear ha hb hy;have hmx:max (n:Int) (m:Int)=((max n m:Nat):Int):=by omega
 by_cases h8:max n m<=64
 ·have t1:decide ((64:Int)<((max n m:Nat):Int))=false:=decide_eq_false (by omega)
  have I:decide (64<max n m)=false:=decide_eq_false (by omega);have o:decide ((64:Int)<max (n:Int) (m:Int))=false:=decide_eq_false (by omega);rw[decide_eq_true h8,Bool.true_and]at hx;subst hx;cases y
  ·go_enter Tryz.func109,Tryz.ntmps109
   go_wp2_with fail;refine(hC.out _ (by first|exact f|exact Zf f _)).mono ?_;rintro e w1 ⟨rfl,h⟩;simp only[Zfr,Bool.false_eq_true,if_false];go_wp2_with fail;go_ret;exact⟨rfl,(by first|exact f.trans (h.mono f.size)|exact(Zf f _).trans (h.mono f.size))⟩
  ·go_enter Tryz.func109,Tryz.ntmps109
   go_wp2_with fail;refine(hC.out _ (by first|exact f|exact Zf f _)).mono ?_;rintro e w1 ⟨rfl,h⟩;simp only[Zfr,if_true];go_wp2_with fail;go_ret;exact⟨rfl,(by first|exact f.trans (h.mono f.size)|exact(Zf f _).trans (h.mono f.size))⟩
 ·have t1:decide ((64:Int)<((max n m:Nat):Int))=true:=decide_eq_true (by omega)
  have I:decide (64<max n m)=true:=decide_eq_true (by omega);have o:decide ((64:Int)<max (n:Int) (m:Int))=true:=decide_eq_true (by omega);rw[decide_eq_false h8,Bool.false_and]at hx;subst hx;go_enter Tryz.func109,Tryz.ntmps109;go_wp2_with fail;go_ret;exact⟨rfl,(by first|exact f|exact Zf f _)⟩
theorem Zwp(A:Option Addr)(n c:Nat)(es:List FX)(w:World)(h:FXL w A n c es)(b:Bool)(hb:Zep es=b) :
    Calls Tryz.prog 150 #[.slice A n c,.func (.func 109) #[] #[]] w (IdxC w (!b)):=by
 have hl:=h.1;have Y:=h.2.1;have U:=h.2.2.1;unfold maxLen at U;replace hl:=Za hl;replace hb:=Za hb;replace h:=Za h;go_enter Tryz.func150,Tryz.ntmps150;go_wp2_with fail
 go_loopw [8] (λiv wr=>∃ i:Nat,i<=n/\iv=.int .i64 i/\Hid (∀ j e,j<i->es[j]?=some e->e.fine64=true)/\Below w.heap.size w wr) (λiv _=>n-(intOf iv).toNat)
 case atStart=>exact⟨0,Qs _,rfl,Za (λj e hj=>by omega),Qf _ _⟩
 case round =>
  obtain⟨i,V,rfl,y,f⟩:=hrel;by_cases hin:i<n
  case neg =>
   obtain rfl:n=i:=by omega
   have T:decide ((n:Int)<(n:Int))=false:=by simp
   obtain rfl:b=true:=by
    rw[<- hb.out];unfold Zep;rw[Qi];intro e he;obtain⟨j,hj,O⟩:=Qh he;exact y.out j e (by rw[hl.out]at hj;exact hj) (by rw[Qa hj,O])
   go_wp2_with fail;go_ret;exact⟨-1,rfl,rfl,f⟩
  have T:decide ((i:Int)<(n:Int))=true:=decide_eq_true (by omega);obtain⟨g,o,e,rfl,he,hc,J,I⟩:=(h.out.below f).at_ hin;obtain⟨c0,c1,c2,c3⟩:=hc;obtain⟨x,hx⟩:∃ x,e.fine64=x:=⟨_,rfl⟩;have hC:=Za (λW1 (hb:Below wr.heap.size wr W1)=>Zws e.na e.nb e.A e.B e.n e.c e.m e.d e.la e.lb W1 (J.below hb) (I.below hb) x hx);clear J I;cases x
  ·obtain rfl:b=false:=by
     rw[<- hb.out];unfold Zep;rw[List.all_eq_false];exact⟨e,Qe he,by rw[hx];decide⟩
   replace he:=Za he;clear hx;go_wp2_with fail;refine(hC.out _ (by first|exact Qf _ _|exact Zf (Qf _ _) _)).mono ?_;rintro e' w1 ⟨rfl,u⟩;go_wp2_with fail;go_ret;exact⟨i,rfl,by simp,(by first|exact f.trans (u.mono f.size)|exact(Zf f _).trans (u.mono f.size))⟩
  ·have C:Hid (∀ j e,j<i+1->es[j]?=some e->e.fine64=true):=Za (λj e' hj he'=>by
     rcases Qp j i with h'|h';exact y.out j e' h' he'
     ·obtain rfl:j=i:=by omega
      rw[he]at he';cases he';exact hx)
   replace he:=Za he;clear hx;go_wp2_with fail;refine(hC.out _ (by first|exact Qf _ _|exact Zf (Qf _ _) _)).mono ?_;rintro e' w1 ⟨rfl,u⟩;go_wp2_with fail
   go_roundw
   case rel=>exact⟨i+1,by omega,by go_num,C,(by first|exact f.trans (u.mono f.size)|exact(Zf f _).trans (u.mono f.size))⟩
   case measure=>simp[intOf];omega
theorem Zu0(A:Option Addr)(n c:Nat)(es:List FX)(w:World)(h:FXL w A n c es)(b:Bool)(hb:Zep es=b) :
    Calls Tryz.prog 108 #[.slice A n c,.func (.func 109) #[] #[]] w λe w'=>e=.returned (.bool (!b))/\Below w.heap.size w w':=by
 go_enter Tryz.func108,Tryz.ntmps108;go_wp2_with fail;refine(Zwp A n c es w h b hb).mono ?_;rintro e w1 ⟨i,rfl,hi,f⟩;replace hi:=Za hi;go_wp2_with fail;go_ret;exact⟨Ze7 hi.out,f⟩
theorem Zp1(A:Option Addr)(n c:Nat)(es:List FX)(w:World)(h:FXL w A n c es)(b:Bool)(hb:Zep es=b) :
    Calls Tryz.prog 65 #[.slice A n c] w λe w'=>e=.returned (.bool b)/\Below w.heap.size w w':=by
 go_enter Tryz.func65,Tryz.ntmps65;go_wp2_with fail;refine(Zu0 A n c es w h b hb).mono ?_;rintro e w1 ⟨rfl,f⟩;go_wp2_with fail;go_ret;exact⟨by simp,f⟩
theorem Zvt(A:Option Addr)(n c:Nat)(w:World)(hn:n<=maxLen) :
    Calls Tryz.prog 104 #[.slice A n c] w λe w'=>e=.returned (.bool (decide (6<n)))/\Below w.heap.size w w':=by
 unfold maxLen at hn;have hd:decide ((6:Int)<(n:Int))=decide (6<n):=decide_eq_decide.2 (by omega);go_enter Tryz.func104,Tryz.ntmps104;go_wp2_with fail;go_ret;exact⟨by first|rfl|simp[hd],by first|exact Qf _ _|exact Zf (Qf _ _) _⟩
theorem FXL.nlenC{w:World}{A:Option Addr}{n c:Nat}{es:List FX}(h:FXL w A n c es):n<=maxLen:=Qc h.2.1 h.2.2.1
theorem Zv6(A:Option Addr)(n c:Nat)(rs:List RX)(w:World)(h:MXL w A n c rs)(b:Bool)(hb:rs.any RX.long6=b) :
    Calls Tryz.prog 146 #[.slice A n c,.func (.func 104) #[] #[]] w (IdxC w b):=by
 have hl:=h.1;have U:=h.2.1;have O:=h.2.2.1;unfold maxLen at O;replace hl:=Za hl;replace hb:=Za hb;replace h:=Za h;go_enter Tryz.func146,Tryz.ntmps146;go_wp2_with fail
 go_loopw [8] (λiv wr=>∃ i:Nat,i<=n/\iv=.int .i64 i/\Hid (∀ j e,j<i->rs[j]?=some e->e.long6=false)/\Below w.heap.size w wr) (λiv _=>n-(intOf iv).toNat)
 case atStart=>exact⟨0,Qs _,rfl,Za (λj e hj=>by omega),Qf _ _⟩
 case round =>
  obtain⟨i,T,rfl,y,f⟩:=hrel;by_cases hin:i<n
  case neg =>
   obtain rfl:n=i:=by omega
   have J:decide ((n:Int)<(n:Int))=false:=by simp
   obtain rfl:b=false:=by
    rw[<- hb.out,QE];intro e he;obtain⟨j,hj,I⟩:=Qh he;have:=y.out j e (by rw[hl.out]at hj;exact hj) (by rw[Qa hj,I]);rw[this];decide
   go_wp2_with fail;go_ret;exact⟨-1,rfl,rfl,f⟩
  have J:decide ((i:Int)<(n:Int))=true:=decide_eq_true (by omega);obtain⟨g,o,r,rfl,he,c0,hL⟩:=(h.out.below f).at_ hin;have hC:=Za (λW1=>Zvt r.A r.n r.c W1 hL.nlenC);clear hL;by_cases hx:6<r.n
  ·obtain rfl:b=true:=by
     rw[<- hb.out,QJ];exact⟨r,Qe he,by unfold RX.long6;simpa using hx⟩
   rw[decide_eq_true hx]at hC;replace he:=Za he;go_wp2_with fail;refine(hC.out _).mono ?_;rintro e' w1 ⟨rfl,u⟩;go_wp2_with fail;go_ret;exact⟨i,rfl,by simp,(by first|exact f.trans (u.mono f.size)|exact(Zf f _).trans (u.mono f.size))⟩
  ·have C:Hid (∀ j e,j<i+1->rs[j]?=some e->e.long6=false):=Za (λj e' hj he'=>by
     rcases Qp j i with h'|h';exact y.out j e' h' he'
     ·obtain rfl:j=i:=by omega
      rw[he]at he';cases he';unfold RX.long6;simpa using hx)
   rw[decide_eq_false hx]at hC;replace he:=Za he;go_wp2_with fail;refine(hC.out _).mono ?_;rintro e' w1 ⟨rfl,u⟩;go_wp2_with fail
   go_roundw
   case rel=>exact⟨i+1,by omega,by go_num,C,(by first|exact f.trans (u.mono f.size)|exact(Zf f _).trans (u.mono f.size))⟩
   case measure=>simp[intOf];omega
theorem Ztk(A:Option Addr)(n c:Nat)(rs:List RX)(w:World)(h:MXL w A n c rs)(b:Bool)(hb:rs.any RX.long6=b) :
    Calls Tryz.prog 105 #[.slice A n c,.func (.func 104) #[] #[]] w λe w'=>e=.returned (.bool b)/\Below w.heap.size w w':=by
 go_enter Tryz.func105,Tryz.ntmps105;go_wp2_with fail;refine(Zv6 A n c rs w h b hb).mono ?_;rintro e w1 ⟨i,rfl,hi,f⟩;replace hi:=Za hi;go_wp2_with fail;go_ret;exact⟨Ze7 hi.out,f⟩
def idxOk(n:Nat)(ls:List Int)(k:Nat):Prop:=(0<=ls[k]?.getD 0/\ls[k]?.getD 0<n)/\∀ j:Nat,j<k->ls[j]?.getD 0≠ls[k]?.getD 0
instance (n:Nat) (ls:List Int) (k:Nat):Decidable (idxOk n ls k):=by unfold idxOk;infer_instance
section
variable{rs:List RX}{ls:List Int}{n:Nat}
end
open Go.ChangeShapes Go.WideShapes Go.Deep Go.RowKit
section
variable{H:Type}{enc:TypeId × Value->H}{P:Program}{w:World}{base:Nat}{spare:Nat->Bool}{held:Bool}
end
section
variable{H:Type}{enc:TypeId × Value->H}{P:Program}
theorem Znh{f:Func}{s:ChangeSpec}{apart fresh handsOn again:Bool}{W W':World}{args:Array Value}{v:Value}{ds gs:List (DataW H)}{before pa pv:List MemPlace}
    (hW:DataW.Whole enc P f.params.toList s.vars apart W args.toList ds gs before)
    (hres:∀ (b:Nat) (sp:Nat->Bool) (hd:Bool),DataW.TrodAll enc P W' b sp hd f.resultTypes.toList (v.resultList f.resultTypes.size) (s.fn H (ds++gs)).results [])
    (hargs:∀ sp:Nat->Bool,(∀ p ∈ before,sp p.block=true)->DataW.TrodAll enc P W' 0 sp true f.params.toList args.toList (s.fn H (ds++gs)).args pa)
    (hvars:∀ sp:Nat->Bool,(∀ p ∈ before,sp p.block=true)->DataW.TrodVars enc P W' sp s.vars (s.fn H (ds++gs)).vars pv)
    (hps:before=pa++pv) (hb:Below W.heap.size W W')
    (hok:∀ (j:Nat) (t:TypeId) (r:Value),f.resultTypes[j]?=some t->(v.resultList f.resultTypes.size)[j]?=some r->Value.okWide P W' .any 0 t r) :
    s.post enc P f apart fresh handsOn again W args v W':=by
 have o:∀ p ∈ before,p.block<W.heap.size:=λp hp=>hW.lt p hp;have e:∀ p ∈ before,(λb=>decide (b<W.heap.size)) p.block=true:=λp hp=>by simpa using o p hp
 refine⟨ds,gs,before,[],pa,pv,hW,hres _ _ _,hargs _ e,hvars _ e,World.keptBut_mono (λp hp=>⟨hp,?_⟩) (hb.frame (· ∈ before)),λ_=>?_⟩
 ·rw[hps,List.mem_append]at hp
  exact Or.inr hp
 ·obtain⟨_,_,_,_,_,hz,hn⟩:=hW
  refine⟨hok,_,_,([]++pa)++pv,⟨[]++pa,pv,trodAll_append (hargs _ (λ_ _=>rfl)) (hres _ _ _),hvars _ (λ_ _=>rfl),rfl,?_,?_⟩,?_⟩
  ·intro b off hp
   have h:MemPlace.cell b off ∈ before:=by rw[hps];simpa using hp
   rw[hb.frozen (o _ h)];exact hz b off h
  ·intro ha
   have:=hn ha;rw[hps]at this;simpa using this
  ·intro p hp _
   rw[hps];simpa using hp
end
theorem Zpb{α:Type}(P:Nat->α->Prop)(n:Nat)(h:∀ i,i<n->∃ e,P i e):∃ es:List α,es.length=n/\∀ (k:Nat) (e:α),es[k]?=some e->P k e:=by
 induction n with
 | zero=>exact⟨[],rfl,λk e h=>by simp at h⟩
 | succ n ih =>
  obtain⟨es,h1,h2⟩:=ih λi hi=>h i (by omega);obtain⟨e,he⟩:=h n (by omega);refine⟨es ++ [e],by simp[h1],λk e' hk=>?_⟩;rcases Qp k es.length with o|f;rw[List.getElem?_append_left o]at hk;exact h2 k e' hk
  ·rw[List.getElem?_append_right f]at hk
   rcases Nat.eq_or_lt_of_le f with h0|h0
   ·rw[show k-es.length=0 by omega]at hk
    simp at hk;subst hk;rw[<- h0,h1];exact he
   ·rw[Qj (by simp;omega)]at hk
    cases hk
theorem Zmk{w:World}{a:Addr}{v:Value}(h:w.cell? a=some v):a=⟨a.block,a.off,none⟩:=by
 obtain⟨b,o,s⟩:=a;cases s with
 | none=>rfl
 | some s =>
  exfalso;unfold World.cell? at h;simp at h
  split at h <;> simp at h
section
variable{H:Type}{enc:TypeId × Value->H}{w:World}{base:Nat}{spare:Nat->Bool}{held:Bool}
end
theorem Fr.rawC{w:World}{na:Bool}{A:Option Addr}{n c:Nat}{nb:Bool}{B:Option Addr}{m d:Nat}{r:Rat}(h:Fr w na A n c nb B m d r):okF na (digits r.num.natAbs) nb (digits r.den)=true/\qOf na (digits r.num.natAbs) (digits r.den)=r:=by
 have h1:=h.1.ok;have h2:=h.2.ok;have h3:=h.1.sgEq;rw[Ql]at h2;have hd:=r.den_pos;have hr:=r.reduced;unfold Nat.Coprime at hr;refine⟨?_,?_⟩
 ·unfold okF
  rw[h1,h2,h.neg,Zi,Zi];simp[length_digits_pos,hd,hr]
 ·unfold qOf
  rw[h3,Zi];exact Qu r
def fewQ(q:Rat):Nat:=max (digits q.num.natAbs).length (digits q.den).length
def sigF(e:FX):Nat × Bool × Rat:=(e.few,e.ok,e.q)
def Zqi(r:RX):Nat × List (Nat × Bool × Rat):=(r.n,r.es.map sigF)
def Zf8(rs:List RX):List (Nat × List (Nat × Bool × Rat)):=rs.map Zqi
def Zpl(Q:List (List Rat)):List (Nat × List (Nat × Bool × Rat)):=Q.map λr=>(r.length,r.map λq=>(fewQ q,true,q))
theorem sig_len{rs rt:List RX}(h:Zf8 rs=Zf8 rt):rs.length=rt.length:=by
 have:=congrArg List.length h;simpa [Zf8]using this
theorem Ztr{rs:List RX}:qM rs=(Zf8 rs).map λx=>x.2.map λy=>y.2.2:=by
 unfold qM Zf8;rw[Qq];refine Qk λr _=>?_;simp[Zqi,sigF,Function.comp_def]
theorem Zpw{rs:List RX}:long6 rs=(decide (6<(Zf8 rs).length) || (Zf8 rs).any λx=>decide (6<x.1)):=by
 unfold long6 Zf8;rw[Qm,List.any_map];rfl
theorem sig_row{k:Nat}{r:RX}:Zda k r=(decide ((Zqi r).1=k) && (Zqi r).2.all λy=>decide (y.1<=64) && y.2.1):=by
 unfold Zda Zep Zqi;simp only[List.all_map];rfl
theorem Zqh{k:Nat}{rs:List RX}:rs.all (Zda k)=(Zf8 rs).all λx=>decide (x.1=k) && x.2.all λy=>decide (y.1<=64) && y.2.1:=by
 unfold Zf8;rw[List.all_map];congr 1
 funext r
 exact sig_row
theorem Zxn{rs rt:List RX}(h:Zf8 rs=Zf8 rt):Zco rs=Zco rt:=by
 unfold Zco;rw[Zpw,Zpw (rs:=rt),Zqh,Zqh (rs:=rt),Ztr,Ztr (rs:=rt),sig_len h,h]
theorem FL.fxs{w:World}{A:Option Addr}{n c:Nat}{qs:List Rat}(h:FL w A n c qs):∃ es,FXL w A n c es/\es.map FX.q=qs/\es.map sigF=qs.map λq=>(fewQ q,true,q):=by
 obtain⟨fs,h1,h2,h3,h4,rfl,h5⟩:=h
 have hk:∀ e ∈ fs,FX.in_ w ⟨e.na,e.A,e.n,e.c,digits e.q.num.natAbs,e.nb,e.B,e.m,e.d,digits e.q.den⟩/\FX.q ⟨e.na,e.A,e.n,e.c,digits e.q.num.natAbs,e.nb,e.B,e.m,e.d,digits e.q.den⟩=e.q/\sigF ⟨e.na,e.A,e.n,e.c,digits e.q.num.natAbs,e.nb,e.B,e.m,e.d,digits e.q.den⟩=(fewQ e.q,true,e.q):=λe he=>by
  have h0:Fr w e.na e.A e.n e.c e.nb e.B e.m e.d e.q:=h4 e he;have h2:=h0.2.2.2;rw[Ql]at h2;have h6:=h0.rawC;refine⟨⟨h0.1.2.2,h2⟩,h6.2,?_⟩;unfold sigF FX.few FX.ok FX.q fewQ;rw[h6.1,h6.2];have e1:=h0.1.2.2.len;have e2:=h2.len;rw[e1,e2]
 refine⟨fs.map λe=>⟨e.na,e.A,e.n,e.c,digits e.q.num.natAbs,e.nb,e.B,e.m,e.d,digits e.q.den⟩,⟨by rw[Qm];exact h1,h2,h3,λx hx=>?_,λhn=>?_⟩,?_,?_⟩
 ·obtain⟨e,he,rfl⟩:=List.mem_map.1 hx
  exact(hk e he).1
 ·obtain⟨g,o,e1,hc⟩:=h5 hn
  refine⟨g,o,e1,λk x hx=>?_⟩;rw[Qb]at hx;obtain⟨e,he,rfl⟩:=Option.map_eq_some_iff.1 hx;exact hc k e he
 ·rw[Qq]
  exact Qk λe he=>(hk e he).2.1
 ·rw[Qq,Qq]
  exact Qk λe he=>(hk e he).2.2
theorem MFL.mxs{w:World}{A:Option Addr}{n c:Nat}{Q:List (List Rat)}(h:MFL w A n c Q):∃ rs,MXL w A n c rs/\qM rs=Q/\Zf8 rs=Zpl Q:=by
 obtain⟨h1,h2,h3,h4⟩:=h;rcases QC n with h0|h0
 ·subst h0
  obtain rfl:Q=[]:=Qr h1;exact⟨[],⟨rfl,h2,h3,λr hr=>(by cases hr),λhn=>absurd hn (Nat.lt_irrefl _)⟩,rfl,rfl⟩
 ·obtain⟨g,o,rfl,hc⟩:=h4 h0
  obtain⟨rs,r1,r2⟩:=Zpb (λi (r:RX)=>w.cell? ⟨g,o+i,none⟩=some (.slice r.A r.n r.c)/\FXL w r.A r.n r.c r.es/\r.es.map FX.q=Q[i]?.getD []/\Zqi r=((Q[i]?.getD []).length,(Q[i]?.getD []).map λq=>(fewQ q,true,q))) n (λi hi=>by
   have hq:Q[i]?=some Q[i]:=Qa (by omega);obtain⟨A',n',c',k0,hF⟩:=hc i _ hq;obtain⟨es,e1,e2,e3⟩:=hF.fxs;refine⟨⟨A',n',c',es⟩,k0,e1,by rw[hq];exact e2,?_⟩;rw[hq,Qd];unfold Zqi;rw[e3,hF.len])
  have ext:∀ {α:Type} (f:RX->α) (g:List Rat->α),(∀ (i:Nat) (r:RX),rs[i]?=some r->f r=g (Q[i]?.getD []))->rs.map f=Q.map g:=λf g hfg=>by
   apply QF;intro i;rw[Qb,Qb];by_cases hi:i<n
   ·have hr:=Qa (l:=rs) (i:=i) (by omega)
    have hq:Q[i]?=some Q[i]:=Qa (by omega);have:=hfg i _ hr;rw[hq,Qd]at this;rw[hr,hq,Qg,Qg,this]
   rw[Qj (l:=rs) (by omega),Qj (l:=Q) (by omega)];rfl
  refine⟨rs,⟨r1,h2,h3,λr hr=>?_,λ_=>⟨g,o,rfl,λk r hk=>(r2 k r hk).1⟩⟩,?_,ext Zqi (λr=>(r.length,r.map λq=>(fewQ q,true,q))) (λi r hr=>(r2 i r hr).2.2.2)⟩
  ·obtain⟨k,hk,rfl⟩:=Qh hr
   exact(r2 k _ (Qa hk)).2.1
  ·have:=ext (λr=>r.es.map FX.q) id (λi r hr=>(r2 i r hr).2.2.1)
   rw[List.map_id]at this;exact this
section
variable{Q:Nat->Nat->Rat}{n:Nat}{a b:List Int}{i k:Nat}
end
section
variable{R:List (List Rat)}{n:Nat}{a b:List Int}
end
theorem inv_CD{B n:Nat}{Q X:Nat->Nat->Rat}(hQ:∀ a b,a<n->b<n->BndQ B (Q a b))(hB:1<=B)(hE:∀ c i,c<n->i<n->Za9 n (λj=>Q i j*X j c)=if i=c then 1 else 0)(h0:Zao n Q≠0) :
    ∃ D,0<D/\D<=Zbf B n/\∀ c k,c<n->k<n->CD D (Zbf B n) (X k c):=by
 obtain⟨d,hd,u⟩:=Zg9 hQ;have y:d≠0:=λe=>h0 (by rw[hd,e];rfl);refine⟨d.natAbs,by omega,u,λc k hc hk=>?_⟩;have f:=Zx6 Q (λj=>X j c) (λi=>if i=c then 1 else 0) (λi hi=>hE c i hc hi) hk
 obtain⟨z,hz,o⟩:=Zg9 (B:=B) (n:=n) (M:=λa b=>if b=k then (if a=c then 1 else 0)else Q a b) (λa b ha hb=>by
  show BndQ B (if b=k then (if a=c then 1 else 0)else Q a b);by_cases h:b=k
  ·rw[if_pos h]
   by_cases h2:a=c;rw[if_pos h2];exact⟨1,rfl,by simpa using hB⟩;rw[if_neg h2];exact⟨0,rfl,by simp⟩
  ·rw[if_neg h];exact hQ a b ha hb)
 rw[hz,hd]at f;have C:(d:Rat)≠0:=λe=>y (by exact_mod_cast e);rcases Int.natAbs_eq d with h|h
 ·refine⟨z,?_,o⟩
  have h1:((d.natAbs:Nat):Rat)=(d:Rat):=by rw[<- Qz,<- h]
  rw[h1,<- f]
  grind
 ·refine⟨-z,?_,by rw[Int.natAbs_neg];exact o⟩
  have h1:((d.natAbs:Nat):Rat)=-(d:Rat):=by
   rw[<- Qz,show ((d.natAbs:Nat):Int)=-d by omega,QL]
  rw[h1,QL,<- f]
  grind
def Zfi:Rat:=((1000000000000000000:Int):Rat)
def ofQ(X:Nat->Nat->Rat)(m:Nat):List (List Rat):=(Qy m).map λi=>(Qy m).map λc=>X i (m+c)*Zfi
section
variable{rs:List RI}{rr ws:List Int}{n m:Nat}
theorem Zfe{i:Nat}(hi:i<m):((Zbz rs ws n m)[i]?.getD []).length=m:=by rw[Zyr hi,Zgc]
theorem Zkk{i j:Nat}(hi:i<m)(hj:j<m):Zl (Zbz rs ws n m) i j=Zfd rs ws n i j:=by
 unfold Zl Zbz;rw[Qb,QA hi,Qg,Qd,Qb,QA hj];rfl
theorem Zmm(hn:n<=200)(hE:Zc1 rs rr ws=0)(i j:Nat):BndQ (pw 4) (Zfd rs ws n i j):=by
 obtain⟨b1,b2,b3⟩:=sys_b40 hE;exact⟨_,rfl,Zxy hn λr _=>⟨b3 r,b1 r i,b1 r j⟩⟩
theorem Zwj(hn:n<=200)(hE:Zc1 rs rr ws=0)(i j:Nat):BndQ (pw 4) (Zl (Z5 (Zbz rs ws n m) m m 0) i j):=by
 have h0:BndQ (pw 4) (0:Rat):=BndQ.zero;have h1:BndQ (pw 4) (1:Rat):=⟨1,rfl,Zc2 4⟩;rw[Zgo (λi hi=>Zfe hi) (Zdu _ _ _ _)];by_cases hi:i<m
 ·rw[if_pos hi]
  by_cases hj:j<m;rw[if_pos hj,Zkk hi hj];exact Zmm hn hE i j
  ·rw[if_neg hj]
   split
   ·split
    exact h1;exact h0
   exact h0
 rw[if_neg hi];exact h0
def OfP(rs:List RI)(ws:List Int)(n m:Nat)(X:Nat->Nat->Rat):Prop:=
 (∀ c i,c<m->i<m->Za9 m (λj=>Zfd rs ws n i j*X j (m+c))=if i=c then 1 else 0)/\∃ D,0<D/\D<=pw (5*m)/\∀ c k,c<m->k<m->CD D (pw (5*m)) (X k (m+c))
theorem Zoi(hn:n<=200)(hm:m<=12)(hE:Zc1 rs rr ws=0) :
    okZ (pw 200) (m+m) m 0 0 (Z6 (Z5 (Zbz rs ws n m) m m 0)) 1/\okR (pw 200) (pw 200) (m+m) m 0 0 (Z5 (Zbz rs ws n m) m m 0)/\Zqd (Z5 (Zbz rs ws n m) m m 0) m (m+m) /\
    (Zan m 0 0 (Z6 (Z5 (Zbz rs ws n m) m m 0)) false 1).2.1=(Z7 m 0 0 (Z5 (Zbz rs ws n m) m m 0) false).2.1/\(Z7 m 0 0 (Z5 (Zbz rs ws n m) m m 0) false).2.1<=m /\
    ((Z7 m 0 0 (Z5 (Zbz rs ws n m) m m 0) false).2.1<m->Zao m (Zfd rs ws n)=0) /\
    ((Z7 m 0 0 (Z5 (Zbz rs ws n m) m m 0) false).2.1=m->Zao m (Zfd rs ws n)≠0/\∃ X:Nat->Nat->Rat,Ze1 (Zl (Z7 m 0 0 (Z5 (Zbz rs ws n m) m m 0) false).1) X m (m+m)/\Ze1 (λi j=>(Zae (Zan m 0 0 (Z6 (Z5 (Zbz rs ws n m) m m 0)) false 1).1 i j:Rat)) X m (m+m)/\OfP rs ws n m X):=by
 have e:∀ i,i<m->((Z5 (Zbz rs ws n m) m m 0)[i]?.getD []).length=m+m:=λi hi=>by
  rw[Zex hi,if_pos hi,QD,Zfe hi];simp[Zfj]
 obtain⟨o1,o2,o3,o4,o5,o6,o7⟩:=Zpj (b:=4) (n:=m) (m:=m+m) (R:=Z5 (Zbz rs ws n m) m m 0) (λi j=>Zwj hn hE i j) (Zke _ _ _ _) (by omega) e (by omega) (by omega) (by omega)
 have h:Zao m (Zl (Z5 (Zbz rs ws n m) m m 0))=Zao m (Zfd rs ws n):=Za7 λi j hi hj=>by
  rw[Zgo (λi hi=>Zfe hi) (Zdu _ _ _ _),if_pos hi,if_pos hj,Zkk hi hj]
 rw[h]at o6 o7;refine⟨o1,o2,o3,o4,o5,o6,λhr=>?_⟩;obtain⟨x1,X,x2,x3,x4⟩:=o7 hr
 have hS:∀ c i,c<m->i<m->Za9 m (λj=>Zfd rs ws n i j*X j (m+c))=if i=c then 1 else 0:=λc i hc hi=>by
  have h6:=x4 i (m+c) hi (by omega) (by omega);rw[Zgo (λi hi=>Zfe hi) (Zdu _ _ _ _),if_pos hi,if_neg (by omega),Nat.add_sub_cancel_left,if_pos hc]at h6;rw[<- h6];exact Zar λj hj=>by rw[Zgo (λi hi=>Zfe hi) (Zdu _ _ _ _),if_pos hi,if_pos hj,Zkk hi hj]
 obtain⟨D,d1,d2,d3⟩:=inv_CD (B:=pw 4) (n:=m) (Q:=Zfd rs ws n) (X:=λj c=>X j (m+c)) (λa b _ _=>Zmm hn hE a b) (Zc2 4) hS x1;have f:=Zla (b:=4) m (by omega);exact⟨x1,X,x2,x3,hS,D,d1,Qc d2 f,λc k hc hk=>(d3 c k hc hk).mono f⟩
end
theorem Zvg(A:Option Addr)(n c:Nat)(w:World)(hn:n<=maxLen) :
    Calls Tryz.prog 42 #[.slice A n c] w λe w'=>e=.returned (.bool (decide (6<n)))/\Below w.heap.size w w':=by
 unfold maxLen at hn;have hd:decide ((6:Int)<(n:Int))=decide (6<n):=decide_eq_decide.2 (by omega);go_enter Tryz.func42,Tryz.ntmps42;go_wp2_with fail;go_ret;exact⟨by first|rfl|simp[hd],by first|exact Qf _ _|exact Zf (Qf _ _) _⟩
def RI.long6(r:RI):Bool:=decide (6<r.n)
theorem Zv2(A:Option Addr)(n c:Nat)(rs:List RI)(w:World)(h:MIL w A n c rs)(b:Bool)(hb:rs.any RI.long6=b) :
    Calls Tryz.prog 79 #[.slice A n c,.func (.func 42) #[] #[]] w (IdxB w b):=by
 have hl:=h.1;have U:=h.2.1;have O:=h.2.2.1;unfold maxLen at O;replace hl:=Za hl;replace hb:=Za hb;replace h:=Za h;go_enter Tryz.func79,Tryz.ntmps79;go_wp2_with fail
 go_loopw [8] (λiv wr=>∃ i:Nat,i<=n/\iv=.int .i64 i/\Hid (∀ j e,j<i->rs[j]?=some e->e.long6=false)/\Below w.heap.size w wr) (λiv _=>n-(intOf iv).toNat)
 case atStart=>exact⟨0,Qs _,rfl,Za (λj e hj=>by omega),Qf _ _⟩
 case round =>
  obtain⟨i,T,rfl,y,f⟩:=hrel;by_cases hin:i<n
  case neg =>
   obtain rfl:n=i:=by omega
   have J:decide ((n:Int)<(n:Int))=false:=by simp
   obtain rfl:b=false:=by
    rw[<- hb.out,QE];intro e he;obtain⟨j,hj,I⟩:=Qh he;have:=y.out j e (by rw[hl.out]at hj;exact hj) (by rw[Qa hj,I]);rw[this];decide
   go_wp2_with fail;go_ret;exact⟨-1,rfl,rfl,f⟩
  have J:decide ((i:Int)<(n:Int))=true:=decide_eq_true (by omega);obtain⟨g,o,r,rfl,he,c0,hL⟩:=(h.out.below f).at_ hin;have hC:=Za (λW1=>Zvg r.A r.n r.c W1 hL.nlen);clear hL;by_cases hx:6<r.n
  ·obtain rfl:b=true:=by
     rw[<- hb.out,QJ];exact⟨r,Qe he,by unfold RI.long6;simpa using hx⟩
   rw[decide_eq_true hx]at hC;replace he:=Za he;go_wp2_with fail;refine(hC.out _).mono ?_;rintro e' w1 ⟨rfl,u⟩;go_wp2_with fail;go_ret;exact⟨i,rfl,by simp,(by first|exact f.trans (u.mono f.size)|exact(Zf f _).trans (u.mono f.size))⟩
  ·have C:Hid (∀ j e,j<i+1->rs[j]?=some e->e.long6=false):=Za (λj e' hj he'=>by
     rcases Qp j i with h'|h';exact y.out j e' h' he'
     ·obtain rfl:j=i:=by omega
      rw[he]at he';cases he';unfold RI.long6;simpa using hx)
   rw[decide_eq_false hx]at hC;replace he:=Za he;go_wp2_with fail;refine(hC.out _).mono ?_;rintro e' w1 ⟨rfl,u⟩;go_wp2_with fail
   go_roundw
   case rel=>exact⟨i+1,by omega,by go_num,C,(by first|exact f.trans (u.mono f.size)|exact(Zf f _).trans (u.mono f.size))⟩
   case measure=>simp[intOf];omega
theorem Zs8(A:Option Addr)(n c:Nat)(rs:List RI)(w:World)(h:MIL w A n c rs)(b:Bool)(hb:rs.any RI.long6=b) :
    Calls Tryz.prog 41 #[.slice A n c,.func (.func 42) #[] #[]] w λe w'=>e=.returned (.bool b)/\Below w.heap.size w w':=by
 go_enter Tryz.func41,Tryz.ntmps41;go_wp2_with fail;refine(Zv2 A n c rs w h b hb).mono ?_;rintro e w1 ⟨i,rfl,hi,f⟩;replace hi:=Za hi;go_wp2_with fail;go_ret;exact⟨Ze7 hi.out,f⟩
def ofE(rs:List RI)(ws:List Int):Int:=if rs.any RI.long6=true then 4 else if Zc1 rs (Qn (min rs.length 200) 0) ws≠0 then Zc1 rs (Qn (min rs.length 200) 0) ws else if Zao (n0I rs) (Zfd rs ws rs.length)=0 then 22 else 0
section
variable{rs:List RI}{ws:List Int}{E:Int}
theorem Zl0(h:rs.any RI.long6=true):ofE rs ws=4:=by unfold ofE;rw[if_pos h]
theorem Zow(h:rs.any RI.long6=false)(hE:Zc1 rs (Qn (min rs.length 200) 0) ws=E)(h0:E≠0):ofE rs ws=E:=by
 unfold ofE;rw[if_neg (by rw[h];decide),hE,if_pos h0]
theorem Zo4(h:rs.any RI.long6=false)(hE:Zc1 rs (Qn (min rs.length 200) 0) ws=0)(hd:Zao (n0I rs) (Zfd rs ws rs.length)=0):ofE rs ws=22:=by
 unfold ofE;rw[if_neg (by rw[h];decide),hE,if_neg (by simp),if_pos hd]
theorem Zx7(h:rs.any RI.long6=false)(hE:Zc1 rs (Qn (min rs.length 200) 0) ws=0)(hd:Zao (n0I rs) (Zfd rs ws rs.length)≠0):ofE rs ws=0:=by
 unfold ofE;rw[if_neg (by rw[h];decide),hE,if_neg (by simp),if_neg hd]
end
def OfPost(rs:List RI)(ws:List Int)(X:Nat->Nat->Rat)(w:World)(e:Ending)(w':World):Prop:=
 Below w.heap.size w w'/\((ofE rs ws=0/\∃ rt,Zf8 rt=Zpl (ofQ X (n0I rs))/\((Zco rt=0/\∃ A c,e=.returned (.tuple #[.slice A (n0I rs) c,.int .i64 0])/\MFL w' A (n0I rs) c (ofQ X (n0I rs))) \/ (Zco rt≠0/\e=.returned (.tuple #[.slice none 0 0,.int .i64 16])))) \/
  (ofE rs ws≠0/\e=.returned (.tuple #[.slice none 0 0,.int .i64 (ofE rs ws)])))
theorem OfPost.fall{rs:List RI}{ws:List Int}{X:Nat->Nat->Rat}{w w':World}{E:Int}(hb:Below w.heap.size w w')(h:ofE rs ws=E)(h0:E≠0):OfPost rs ws X w (.returned (.tuple #[.slice none 0 0,.int .i64 E])) w':=by
 subst h;exact⟨hb,.inr ⟨h0,rfl⟩⟩
def ScT(L L2:List RF)(m i k:Nat)(S:Rat):Prop:=
 L2.length=m/\L2.map RF.g=L.map RF.g/\(∀ (j:Nat) (r:RF),L2[j]?=some r->r.q.length=m)/\∀ j c,j<m->c<m->Zl (L2.map RF.q) j c=if j<i \/ (j=i/\c<k)then Zl (L.map RF.q) j c*S else Zl (L.map RF.q) j c
section
variable{L L2:List RF}{m i k:Nat}{S:Rat}
theorem ScT.start(hl:L.length=m)(hr:∀ (j:Nat) (r:RF),L[j]?=some r->r.q.length=m):ScT L L m 0 0 S:=
 ⟨hl,rfl,hr,λj c _ _=>by rw[if_neg (by omega)]⟩
theorem ScT.step(h:ScT L L2 m i k S){r:RF}(hr:L2[i]?=some r)(hi:i<m)(hk:k<m){x:Rat}(hx:x=Zl (L.map RF.q) i k*S):ScT L (L2.set i ⟨r.g,r.c,r.q.set k x⟩) m i (k+1) S:=by
 obtain⟨h1,h2,h3,h4⟩:=h;have e:i<L2.length:=by omega
 have o:=h3 i r hr;refine⟨by rw[QM];exact h1,?_,λj s hs=>?_,λj c hj hc=>?_⟩;rw[Zcm (f:=RF.g) (s:=⟨r.g,r.c,r.q.set k x⟩) hr rfl];exact h2
 ·rw[QG]at hs
  by_cases hij:i=j
  ·subst hij
   rw[if_pos rfl,if_pos e]at hs;cases hs;rw[QM];exact o
  ·rw[if_neg hij]at hs
   exact h3 j s hs
 ·rw[Zdf,Zq1 e]
  have h5:=h4 j c hj hc;rw[Zdf]at h5;by_cases hji:j=i
  ·subst hji
   rw[if_pos rfl];rw[Zcl hr]at h5;show (r.q.set k x)[c]?.getD 0=_;rw[QG];by_cases hkc:k=c
   ·subst hkc
    rw[if_pos rfl,if_pos (by omega),if_pos (by omega),Qd];exact hx
   ·rw[if_neg hkc,h5]
    by_cases hck:c<k;rw[if_pos (by omega),if_pos (by omega)];rw[if_neg (by omega),if_neg (by omega)]
  ·rw[if_neg hji,h5]
   by_cases hj2:j<i;rw[if_pos (by omega),if_pos (by omega)];rw[if_neg (by omega),if_neg (by omega)]
theorem ScT.next(h:ScT L L2 m i m S):ScT L L2 m (i+1) 0 S:=by
 obtain⟨h1,h2,h3,h4⟩:=h;refine⟨h1,h2,h3,λj c hj hc=>?_⟩;rw[h4 j c hj hc];by_cases hj2:j<i+1;rw[if_pos (by omega),if_pos (by omega)];rw[if_neg (by omega),if_neg (by omega)]
theorem ScT.done(h:ScT L L2 m m 0 S):L2.map RF.q=(Qy m).map λj=>(Qy m).map λc=>Zl (L.map RF.q) j c*S:=by
 obtain⟨h1,h2,h3,h4⟩:=h;refine QK (by simp[h1]) λj hj1 hj2=>?_;rw[Qm,h1]at hj1;have hs:L2[j]?=some L2[j]:=Qa (by omega);have hq:=h3 j _ hs;refine QK (by simp[hq]) λc hc1 hc2=>?_;have hc:c<m:=by simpa [hq]using hc1
 have h5:=h4 j c hj1 hc;rw[if_pos (by omega)]at h5
 have h6:Zl (L2.map RF.q) j c=(L2[j].q)[c]'(by omega):=by
  unfold Zl;rw[Qb,hs,Qg,Qd,Qa (by omega),Qd]
 rw[h6]at h5;simp[h5]
end
def InvZB(Q:List (List Rat))(n:Nat)(X:Nat->Nat->Rat)(w:World)(e:Ending)(w':World):Prop:=
 ((Zan n 0 0 (Z6 (Z5 Q n n 0)) false 1).2.1<n/\e=.returned (.tuple #[.slice none 0 0,.int .i64 18])/\Below w.heap.size w w') \/
 ((Zan n 0 0 (Z6 (Z5 Q n n 0)) false 1).2.1=n/\∃ gO L,e=.returned (.tuple #[.slice (some ⟨gO,0,none⟩) n n,.int .i64 0])/\Below w.heap.size w w'/\MatB 35 41 w' gO L/\L.map RF.q=Zdz X n (n+n)/\w.heap.size<=gO/\∀ r ∈ L,w.heap.size<=r.g)
theorem Zni(A:Option Addr)(n c:Nat)(rs:List RX)(w:World)(h:MXL w A n c rs)(hs:sqE rs=0)(hn9:n<=12)(V:okZ (pw 200) (n+n) n 0 0 (Z6 (Z5 (qM rs) n n 0)) 1)(hfin:Zqd (Z5 (qM rs) n n 0) n (n+n))(a2:(Zan n 0 0 (Z6 (Z5 (qM rs) n n 0)) false 1).2.1<=n)
    (X:Nat->Nat->Rat) (hX:(Zan n 0 0 (Z6 (Z5 (qM rs) n n 0)) false 1).2.1=n->Ze1 (λi j=>(Zae (Zan n 0 0 (Z6 (Z5 (qM rs) n n 0)) false 1).1 i j:Rat)) X n (n+n)) :
    Calls Tryz.prog 43 #[.slice A n c] w (InvZB (qM rs) n X w):=by
 have hmx:Tryz.prog.follows .mixedOrders=true:=by kernel_rfl
 have c0:(35:TypeId)≠41:=by decide
 obtain⟨a1,b5⟩:=Zvn hs;obtain⟨f1,f2,f3,f4,f5⟩:=Zio a1;have hl:=h.1;have b7:(qM rs).length=n:=qM_len h;have J:=qM_row h a1;rw[show n0R rs=n by omega]at J;have O:=h.good a1;obtain⟨W0,b6,o,q0,s0⟩:=Zax w 25 #[.slice A n c];have k0:=q0.cell 0;simp at k0;obtain⟨Q,hQ⟩:∃ Q,qM rs=Q:=⟨_,rfl⟩;rw[hQ]at b7 J O V hfin a2;rw[hQ]at hX;replace hX:=Za hX;unfold InvZB;rw[hQ];have c1:1<=n:=by omega
 replace h:=Za (h.below o);replace hs:=Za hs;replace O:=Za (O.below o);replace J:=Za J;replace V:=Za V;replace a2:=Za a2;replace hfin:=Za hfin;clear f3 f4 f5 a1 b5;go_enter Tryz.func43,Tryz.ntmps43;go_wp2_with fail;(try rw[b6]);go_wp2_with fail;refine(Zqv A n c rs W0 h.out 0 hs.out).mono ?_;rintro e w1 ⟨rfl,C⟩;have q1:=Zd C q0;replace O:=Za (O.out.below C);clear k0;go_wp2_with fail;obtain⟨X0,a3⟩:∃ X,w1.drew=X:=⟨_,rfl⟩;have y:Below w1.heap.size w1 X0:=by rw[<- a3];exact Zf (Qf _ _) 1
 have f:Hid (∀ wx,Below w1.heap.size w1 wx->wx.cell? ⟨w.heap.size,0,none⟩=some (.slice A n c)):=Za (λwx hbx=>by
  have h1:=(q1.below hbx q1.lt).cell 0;simpa using h1)
 refine wp_heldS [] hmx f (by rw[a3];exact y) (λhxs=>?_);rw[a3];refine Zje 4 [0,1,3,4] rfl (by kernel_rfl) (f.out _ y) ?_
 iterate 4 (refine tk1 (v:=?_) rfl (Or.inl ⟨by kernel_rfl,?_⟩) ?_;rotate_left;(· intro W2 hSw;(try dsimp only at hSw);go_simp;try with_reducible rfl);try simp only[Qw,Zgy,Zge,Zgs,putG_a,putG_s,putG_z])
 refine tk0 ?_;refine Ze (i:=2) rfl (by kernel_rfl) (λK hK=>?_);go_simp;refine(Zup 81 (.pointer (some ⟨w.heap.size,0,none⟩)) A n c n n Q (λi=>Zfj n i) X0 (O.out.below y) (by omega) J.out (by omega) (by omega) (by omega) (by omega) (λi hi=>Zd5 _ _) (λx W=>Zl6 _ _ _) (λW i hbW hi=>Zrf w.heap.size A n c i W (((q1.below y q1.lt)).below hbW (q1.below y q1.lt).lt) (by omega) hi)).mono ?_;rintro e w3 ⟨go,L,rfl,b3,-,b1,a8,b2⟩
 have Y:L.map RF.q=Z5 Q n n 0:=by
  rw[b2];unfold Z5;refine Qk λj hj=>?_;rw[if_pos (List.mem_range.1 hj)]
 have U:=a8.mfl b1 (Qv n) (by unfold maxLen;omega);rw[Y]at U;have u:=y.trans (b3.mono y.size)
 have a0:∀ j,j<n->((Z5 Q n n 0)[j]?.getD []).length=n+n:=λj hj=>by
  rw[Zex hj,if_pos hj,QD,J.out j hj,Zd5]
 replace U:=Za U;replace a0:=Za a0;refine hK.out _ _ (λ_=>f.out _ u) ?_;clear hK K a8 Y b2 b3 b1
 try simp only[Qw,Zgy,Zge,Zgs]
 by_cases T:(Zan n 0 0 (Z6 (Z5 Q n n 0)) false 1).2.1<n
 ·skip
  replace T:=Za T;refine Ze (i:=5) rfl (by kernel_rfl) (λK hK=>?_);go_simp;refine(Zxk (some ⟨go,0,none⟩) n n (n+n) (Z5 Q n n 0) w3 U.out (by omega) (by omega) (by omega) (by omega) a0.out V.out hfin.out T.out).mono ?_;rintro e w5 ⟨rfl,a5⟩;have I:=u.trans (a5.mono u.size);refine hK.out _ _ (λ_=>f.out _ I) ?_;clear hK K
  try simp only[Qw,Zgy,Zge,Zgs]
  refine Zgf 5 [6,7,8,9,10] rfl (by kernel_rfl) (f.out _ I) ?_
  iterate 5 (refine tk1 (v:=?_) rfl (Or.inl ⟨by kernel_rfl,?_⟩) ?_;rotate_left;(· intro W2 _;go_simp;try with_reducible rfl);try simp only[Qw,Zgy,Zge,Zgs,putG_a,putG_s,putG_z])
  refine tk0 ?_;refine Zj (by kernel_rfl) ?_ _;refine QH ?_;have a4:Below w.heap.size w w5:=o.trans (C.mono o.size |>.trans (I.mono (Qc o.size C.size)));clear hxs f y u;go_wp2_with fail;go_returns;exact .inl ⟨T.out,rfl,a4⟩
 ·skip
  have a6:Hid ((Zan n 0 0 (Z6 (Z5 Q n n 0)) false 1).2.1=n):=Za (Nat.le_antisymm a2.out (Nat.not_lt.1 T));clear T;refine Ze (i:=5) rfl (by kernel_rfl) (λK hK=>?_);go_simp;refine(Zw3 (some ⟨go,0,none⟩) n n (n+n) (Z5 Q n n 0) w3 U.out (by omega) (by omega) (by omega) (by omega) a0.out V.out hfin.out a6.out X (hX.out a6.out)).mono ?_;rintro e w5 ⟨gO,L5,rfl,a5,b9,a9,b0,a7⟩;have I:=u.trans (a5.mono u.size);have b4:Hid (w.heap.size<=gO/\∀ r ∈ L5,w.heap.size<=r.g):=Za ⟨Qc (Qc o.size (Qc C.size u.size)) b9,λr hr=>Qc (Qc o.size (Qc C.size u.size)) (a7 r hr)⟩;have b8:=Za (show MatB 35 41 w5 gO L5 from a9);refine hK.out _ _ (λ_=>f.out _ I) ?_;clear hK K
  try simp only[Qw,Zgy,Zge,Zgs]
  refine Zgf 5 [6,7,8,9,10] rfl (by kernel_rfl) (f.out _ I) ?_
  iterate 5 (refine tk1 (v:=?_) rfl (Or.inl ⟨by kernel_rfl,?_⟩) ?_;rotate_left;(· intro W2 _;go_simp;try with_reducible rfl);try simp only[Qw,Zgy,Zge,Zgs,putG_a,putG_s,putG_z])
  refine tk0 ?_;refine Zj (by kernel_rfl) ?_ _;refine QH ?_;have a4:Below w.heap.size w w5:=o.trans (C.mono o.size |>.trans (I.mono (Qc o.size C.size)));clear hxs f y u;clear a9;go_wp2_with fail;go_returns;exact .inr ⟨a6.out,gO,L5,rfl,a4,b8.out,b0,b4.out.1,b4.out.2⟩
section
variable{H:Type}{enc:TypeId × Value->H}{w:World}{base:Nat}{spare:Nat->Bool}{held:Bool}
end
section
variable{H:Type}{enc:TypeId × Value->H}{w:World}{base:Nat}{spare:Nat->Bool}{held:Bool}
end
theorem Fr.raw{w:World}{na:Bool}{A:Option Addr}{n c:Nat}{nb:Bool}{B:Option Addr}{m d:Nat}{r:Rat}(h:Fr w na A n c nb B m d r):okF na (digits r.num.natAbs) nb (digits r.den)=true/\qOf na (digits r.num.natAbs) (digits r.den)=r:=by
 have h1:=h.1.ok;have h2:=h.2.ok;have h3:=h.1.sgEq;rw[Ql]at h2;have hd:=r.den_pos;have hr:=r.reduced;unfold Nat.Coprime at hr;refine⟨?_,?_⟩
 ·unfold okF
  rw[h1,h2,h.neg,Zi,Zi];simp[length_digits_pos,hd,hr]
 ·unfold qOf
  rw[h3,Zi];exact Qu r
def FE.fx(e:FE):FX:=⟨e.na,e.A,e.n,e.c,digits e.q.num.natAbs,e.nb,e.B,e.m,e.d,digits e.q.den⟩
def Sm8(q:Rat):Prop:=q.num.natAbs<pw 8/\q.den<pw 8
theorem FE.fx_ok{w:World}{e:FE}(h:e.in_ w)(hs:Sm8 e.q):e.fx.in_ w/\e.fx.fine=true/\e.fx.q=e.q:=by
 have h0:Fr w e.na e.A e.n e.c e.nb e.B e.m e.d e.q:=h;have h1:=h0.1.2.2;have h2:=h0.2.2.2;rw[Ql]at h2;refine⟨⟨h1,h2⟩,?_,h0.raw.2⟩;unfold FX.fine;rw[Qo];refine⟨decide_eq_true ?_,h0.raw.1⟩;have a1:=(Zs _ 8).2 hs.1;have a2:=(Zs _ 8).2 hs.2;have b1:=h1.len;have b2:=h2.len;unfold FX.few FE.fx;simp only;omega
theorem FL.fxl{w:World}{A:Option Addr}{n c:Nat}{qs:List Rat}(h:FL w A n c qs)(hs:∀ q ∈ qs,Sm8 q):∃ es,FXL w A n c es/\es.map FX.q=qs/\Zeo es=true:=by
 obtain⟨fs,h1,h2,h3,h4,rfl,h5⟩:=h;have hk:∀ e ∈ fs,e.fx.in_ w/\e.fx.fine=true/\e.fx.q=e.q:=λe he=>FE.fx_ok (h4 e he) (hs _ (List.mem_map_of_mem he));refine⟨fs.map FE.fx,⟨by rw[Qm];exact h1,h2,h3,λx hx=>?_,λhn=>?_⟩,?_,?_⟩
 ·obtain⟨e,he,rfl⟩:=List.mem_map.1 hx
  exact(hk e he).1
 ·obtain⟨g,o,e1,hc⟩:=h5 hn
  refine⟨g,o,e1,λk x hx=>?_⟩;rw[Qb]at hx;obtain⟨e,he,rfl⟩:=Option.map_eq_some_iff.1 hx;exact hc k e he
 ·rw[Qq]
  exact Qk λe he=>(hk e he).2.2
 ·unfold Zeo
  rw[Qi];intro x hx;obtain⟨e,he,rfl⟩:=List.mem_map.1 hx;exact(hk e he).2.1
theorem MFL.mxl{w:World}{A:Option Addr}{n c:Nat}{Q:List (List Rat)}(h:MFL w A n c Q)(hs:∀ r ∈ Q,∀ q ∈ r,Sm8 q):∃ rs,MXL w A n c rs/\qM rs=Q/\∀ (i:Nat) (r:RX),rs[i]?=some r->r.n=(Q[i]?.getD []).length/\Zeo r.es=true:=by
 obtain⟨h1,h2,h3,h4⟩:=h;rcases QC n with h0|h0
 ·subst h0
  obtain rfl:Q=[]:=Qr h1;exact⟨[],⟨rfl,h2,h3,λr hr=>(by cases hr),λhn=>absurd hn (Nat.lt_irrefl _)⟩,rfl,λi r hr=>(by simp at hr)⟩
 ·obtain⟨g,o,rfl,hc⟩:=h4 h0
  obtain⟨rs,r1,r2⟩:=Zpb (λi (r:RX)=>w.cell? ⟨g,o+i,none⟩=some (.slice r.A r.n r.c)/\FXL w r.A r.n r.c r.es/\r.es.map FX.q=Q[i]?.getD []/\Zeo r.es=true/\r.n=(Q[i]?.getD []).length) n (λi hi=>by
   have hq:Q[i]?=some Q[i]:=Qa (by omega);obtain⟨A',n',c',k0,hF⟩:=hc i _ hq;obtain⟨es,e1,e2,e3⟩:=hF.fxl (hs _ (QI _));exact⟨⟨A',n',c',es⟩,k0,e1,by rw[hq];exact e2,e3,by rw[hq];exact hF.len.symm⟩)
  refine⟨rs,⟨r1,h2,h3,λr hr=>?_,λ_=>⟨g,o,rfl,λk r hk=>(r2 k r hk).1⟩⟩,?_,λi r hr=>⟨(r2 i r hr).2.2.2.2,(r2 i r hr).2.2.2.1⟩⟩
  ·obtain⟨k,hk,rfl⟩:=Qh hr
   exact(r2 k _ (Qa hk)).2.1
  ·unfold qM
   apply QF;intro i;rw[Qb];by_cases hi:i<n
   ·have hr:=Qa (l:=rs) (i:=i) (by omega)
    have hq:Q[i]?=some Q[i]:=Qa (by omega);have:=(r2 i _ hr).2.2.1;rw[hq]at this;rw[hr,hq,Qg];exact congrArg some this
   rw[Qj (by omega),Qj (l:=Q) (by omega)];rfl
theorem Zxc{w:World}{A:Option Addr}{n c m:Nat}{rs:List RX}(h:MXL w A n c rs)(hn:0<n)(hn12:n<=12)(hm:0<m)(hm12:m<=12)(hr:∀ r ∈ rs,r.n=m/\Zeo r.es=true):Zgq rs=0/\n0R rs=m:=by
 obtain⟨r0,f⟩:∃ r,rs[0]?=some r:=⟨_,Qa (by rw[h.1];exact hn)⟩
 have h0:n0R rs=m:=by
  unfold n0R;rw[f];exact(hr r0 (Qe f)).1
 refine⟨?_,h0⟩;unfold Zgq
 have h1:Zhm rs=false:=by
  unfold Zhm;rw[Qx];refine⟨decide_eq_false (by have:=h.1;omega),List.any_eq_false.2 λr e=>?_⟩;have:=(hr r e).1;simp[RX.long,this];omega
 rw[if_neg (by simp[h1]),if_neg (by omega),if_pos ?_];rw[Qi];intro r e;obtain⟨a1,a2⟩:=hr r e;unfold Zg1;simp[a1,a2,h0]
section
variable{q:Rat}{z:Int}{x:Value}{B0:Nat}{t:TypeId}{cs:Array Value}
end
theorem Zbs{t:TypeId}{w:World}{g:Nat}{a0:Bool}{A0:Option Addr}{n0 c0:Nat}{b0:Bool}{B0:Option Addr}{m0 d0:Nat}(na:Bool)(A:Option Addr)(n c:Nat)(nb:Bool)(B:Option Addr)(m d:Nat)(hb:Blk w g t #[.bool a0,.slice A0 n0 c0,.bool b0,.slice B0 m0 d0]) :
    ∃ W,(((w.setCell ⟨g,0,none⟩ (.bool na)).setCell ⟨g,1,none⟩ (.slice A n c)).setCell ⟨g,2,none⟩ (.bool nb)).setCell ⟨g,3,none⟩ (.slice B m d)=W/\Blk W g t #[.bool na,.slice A n c,.bool nb,.slice B m d]/\Kept (λk=>k=g) w W/\W.heap.size=w.heap.size:=by
 have e:Blk (w.setCell ⟨g,0,none⟩ (.bool na)) g t #[.bool na,.slice A0 n0 c0,.bool b0,.slice B0 m0 d0]:=hb.set_ 0 (.bool na);have o:Blk ((w.setCell ⟨g,0,none⟩ (.bool na)).setCell ⟨g,1,none⟩ (.slice A n c)) g t #[.bool na,.slice A n c,.bool b0,.slice B0 m0 d0]:=e.set_ 1 (.slice A n c);have f:Blk (((w.setCell ⟨g,0,none⟩ (.bool na)).setCell ⟨g,1,none⟩ (.slice A n c)).setCell ⟨g,2,none⟩ (.bool nb)) g t #[.bool na,.slice A n c,.bool nb,.slice B0 m0 d0]:=o.set_ 2 (.bool nb);have h:Blk ((((w.setCell ⟨g,0,none⟩ (.bool na)).setCell ⟨g,1,none⟩ (.slice A n c)).setCell ⟨g,2,none⟩ (.bool nb)).setCell ⟨g,3,none⟩ (.slice B m d)) g t #[.bool na,.slice A n c,.bool nb,.slice B m d]:=f.set_ 3 (.slice B m d);have k0:Kept (λk=>k=g) w w:=Kept.refl _ _;exact⟨_,rfl,h,(((k0.set_ (p:=⟨g,0,none⟩) (.inl rfl) _).set_ (p:=⟨g,1,none⟩) (.inl rfl) _).set_ (p:=⟨g,2,none⟩) (.inl rfl) _).set_ (p:=⟨g,3,none⟩) (.inl rfl) _,by simp⟩
theorem Fr.keptN{w w':World}{na:Bool}{A:Option Addr}{n c:Nat}{nb:Bool}{B:Option Addr}{m d:Nat}{r:Rat}{g:Nat}{t:TypeId}{cs:Array Value}(h:Fr w na A n c nb B m d r)(hk:Kept (λk=>k=g) w w')(hb:Blk w g t cs)(hn:NoLimb cs):Fr w' na A n c nb B m d r:=
 ⟨hk.wd h.1 (λk e=>by cases e;exact⟨_,_,hb,hn⟩),hk.wd h.2 (λk e=>by cases e;exact⟨_,_,hb,hn⟩)⟩
theorem Zcf(a:Bool)(A:Option Addr)(n c:Nat)(b:Bool)(B:Option Addr)(m d:Nat):NoLimb #[.bool a,.slice A n c,.bool b,.slice B m d]:=λi x=>by
 match i with
 | 0=>simp
 | 1=>simp
 | 2=>simp
 | 3=>simp
 | i+4=>simp
theorem Zcq(x:Int)(w:World) :
    Calls Tryz.prog 40 #[.bool true,.int .i64 x] w λe w'=>e=.returned (.tuple #[])/\w'=w:=by
 go_enter Tryz.func40,Tryz.ntmps40;go_wp2_with fail
 go_end0
 exact⟨rfl,rfl⟩
theorem Zbx(x:Int)(w:World) :
    Calls Tryz.prog 40 #[.bool false,.int .i64 x] w λe w'=>e=.panicked [{ v:=.iface 117 (.agg #[.int .i64 x]),recovered:=false }]/\w'=w:=by
 go_enter Tryz.func40,Tryz.ntmps40;go_wp2_with fail;exact⟨rfl,rfl,rfl⟩
theorem Zkv(p:Addr)(w:World) :
    CallsD Tryz.prog 39 #[.pointer (some p)] .returning w λe u' w'=>e=.returned (.tuple #[])/\u'=.returning/\w'=w:=by
 refine callsD_of_wpS Tryz.func39 rfl λc₀ cs hu=>?_;apply wpS_seq;apply wpS_region;simp[wpOpsS,go_sem,recoverD,hu,Tryz.ntmps39,Exit.thenS];rw[show (#[Value.pointer (some p)]++(QN 14 undef).setIfInBounds 4 Value.nilIface)=#[Value.pointer (some p),undef,undef,undef,undef,Value.nilIface,undef,undef,undef,undef,undef,undef,undef,undef,undef] from rfl];refine wpS_of_wp ?_;go_wp2_with fail;cases c₀
 simp_all [bodyPostS,results,Tryz.results39]
theorem Zxj(x:Int)(w:World):(Instr.typeAssert (.iface 117 (.agg #[.int .i64 x])) 20 117 true).run Tryz.prog w=.ok (.tuple #[.agg #[.int .i64 x],.bool true]) w:=by kernel_rfl
theorem Zeg(p:Addr)(x y:Int)(w:World)(hc:w.cell? p=some (.int .i64 y))(hz:w.frozen? p=false) :
    CallsD Tryz.prog 39 #[.pointer (some p)] (.panicking [{ v:=.iface 117 (.agg #[.int .i64 x]),recovered:=false }]) w λe u' w' =>
     e=.returned (.tuple #[])/\u'=.panicking [{ v:=.iface 117 (.agg #[.int .i64 x]),recovered:=true }]/\w'=(w.alloc (.cells #[.int .i64 x] 117)).setCell p (.int .i64 x):=by
 have f:=Zo hc;have h:(w.alloc (.cells #[.int .i64 x] 117)).cell? p=some (.int .i64 y):=by rw[World.cell?_alloc_lt _ _ _ f];exact hc
 have u:(w.alloc (.cells #[.int .i64 x] 117)).frozen? p=false:=by exact((Qf w.heap.size w).alloc (Qv _) _ |>.frozen f).trans hz
 have o:=Zxj x;refine callsD_of_wpS Tryz.func39 rfl λc₀ cs hu=>?_;apply wpS_seq;apply wpS_region;simp[wpOpsS,go_sem,recoverD,hu,Tryz.ntmps39,Exit.thenS];rw[show (#[Value.pointer (some p)]++(QN 14 undef).setIfInBounds 4 (Value.iface 117 (.agg #[.int .i64 x])))=#[Value.pointer (some p),undef,undef,undef,undef,Value.iface 117 (.agg #[.int .i64 x]),undef,undef,undef,undef,undef,undef,undef,undef,undef] from rfl];refine wpS_of_wp ?_;go_wp2_with fail;simp[bodyPostS,results,Tryz.results39]
theorem Zji(na nb:Bool)(A B:Option Addr)(n c m d:Nat)(q:Rat)(w:World)(h:Fr w na A n c nb B m d q) :
    Calls Tryz.prog 84 #[.agg #[.bool na,.slice A n c,.bool nb,.slice B m d],.int .i64 0] w (Zd0 w q):=by
 obtain⟨W0,y,u,⟨q0,q1⟩,s0⟩:=Zfa w 41 #[.bool na,.slice A n c,.bool nb,.slice B m d] 73 #[.bool false,.slice none 0 0,.bool false,.slice none 0 0];obtain⟨a0,a1,a2,a3,-⟩:=q0.four;obtain⟨gR,f⟩:∃ g,w.heap.size+1=g:=⟨_,rfl⟩;rw[f]at q1;have h0:=h.below u;go_enter Tryz.func84,Tryz.ntmps84;go_wp2_with fail;(try rw[y]);refine(Zcq 0 W0).mono ?_;rintro e w1 ⟨rfl,rfl⟩;(try rw[f]);obtain⟨c0,c1,c2,c3,z0,z1,z2,z3⟩:=q1.four;obtain⟨W5,C,q5,o,s5⟩:=Zbs na A n c nb B m d q1;go_wp2_with fail;(try rw[C]);obtain⟨r0,r1,r2,r3,-⟩:=q5.four;refine bodyPost_ret (v:=.agg #[.bool na,.slice A n c,.bool nb,.slice B m d]) (by simp[results,Tryz.results84,go_sem,r0,r1,r2,r3]) rfl ?_;refine⟨?_,_,_,_,_,_,_,_,_,rfl,h0.keptN o q1 (Zcf _ _ _ _ _ _ _ _)⟩;exact u.trans (o.to_below (λk e=>by omega) (by omega))
theorem Znv(na nb na' nb':Bool)(A B A' B':Option Addr)(n c m d n' c' m' d':Nat)(a b:Rat)(w:World)(ha:Fr w na A n c nb B m d a)(hb:Fr w na' A' n' c' nb' B' m' d' b)(sa:Sm a)(sb:Sm b) :
    Calls Tryz.prog 71 #[.agg #[.bool na,.slice A n c,.bool nb,.slice B m d],.agg #[.bool na',.slice A' n' c',.bool nb',.slice B' m' d']] w (Zd0 w (a-b)):=by
 obtain⟨W0,I,f,⟨q0,q1,q2⟩,s0⟩:=Zcu w 73 #[.bool na,.slice A n c,.bool nb,.slice B m d] 73 #[.bool na',.slice A' n' c',.bool nb',.slice B' m' d'] 73 #[.bool false,.slice none 0 0,.bool false,.slice none 0 0];obtain⟨a0,a1,a2,a3,-⟩:=q0.four;obtain⟨b0,b1,b2,b3,-⟩:=q1.four;obtain⟨gR,o⟩:∃ g,w.heap.size+1+1=g:=⟨_,rfl⟩;rw[o]at q2;have hA:=ha.below f;have hD:=hb.below f;go_enter Tryz.func71,Tryz.ntmps71;go_wp2_with fail;(try rw[I]);refine(Zuc na nb na' nb' A B A' B' n c m d n' c' m' d' a b W0 hA hD sa sb).mono ?_;rintro e w1 ⟨h,pn,pA,pk,pc,pm,pB,pj,pd,rfl,hf⟩;replace q2:=Zd h q2;clear a0 a1 a2 a3 b0 b1 b2 b3 q0 q1 hA hD;go_wp2_with fail;refine(Zji pn pm pA pB pk pc pj pd _ w1 hf).mono ?_;rintro e w2 ⟨C,rn,rA,rk,rc,rm,rB,rj,rd,rfl,hr⟩;replace q2:=Zd C q2;(try rw[o]);obtain⟨c0,c1,c2,c3,z0,z1,z2,z3⟩:=q2.four;obtain⟨W5,J,q5,u,s5⟩:=Zbs rn rA rk rc rm rB rj rd q2;clear hf;go_wp2_with fail;(try rw[J]);obtain⟨r0,r1,r2,r3,-⟩:=q5.four;refine bodyPost_ret (v:=.agg #[.bool rn,.slice rA rk rc,.bool rm,.slice rB rj rd]) (by simp[results,Tryz.results71,go_sem,r0,r1,r2,r3]) rfl ?_;refine⟨?_,_,_,_,_,_,_,_,_,rfl,hr.keptN u q2 (Zcf _ _ _ _ _ _ _ _)⟩;have y:=f.trans ((h.trans (C.mono h.size)).mono f.size);exact y.trans (u.to_below (λk e=>by omega) y.size)
theorem Zys(z:Int):Rat.divInt z 1=(z:Rat):=by
 have h:=Qu ((z:Int):Rat);rw[Rat.num_intCast,Rat.den_intCast]at h;exact h
theorem cof_ok(z:Int)(w:World)(h1:-9223372036854775808<=z)(h2:z<=9223372036854775807) :
    Calls Tryz.prog 44 #[.int .i64 z] w (Zd0 w (z:Rat)):=by
 obtain⟨W0,I,C,q0,s0⟩:=Zax w 73 #[.bool false,.slice none 0 0,.bool false,.slice none 0 0];obtain⟨gR,h⟩:∃ g,w.heap.size=g:=⟨_,rfl⟩;rw[h]at q0;go_enter Tryz.func44,Tryz.ntmps44;go_wp2_with fail;(try rw[I]);refine(Ztu z 1 W0 h1 h2 (by decide) (by decide)).mono ?_;rw[Zys];rintro e w1 ⟨f,pn,pA,pk,pc,pm,pB,pj,pd,rfl,hf⟩;replace q0:=Zd f q0;go_wp2_with fail;refine(Zji pn pm pA pB pk pc pj pd _ w1 hf).mono ?_;rintro e w2 ⟨y,rn,rA,rk,rc,rm,rB,rj,rd,rfl,hr⟩;replace q0:=Zd y q0;(try rw[h]);obtain⟨c0,c1,c2,c3,z0,z1,z2,z3⟩:=q0.four;obtain⟨W5,J,q5,o,s5⟩:=Zbs rn rA rk rc rm rB rj rd q0;clear hf;go_wp2_with fail;(try rw[J]);obtain⟨r0,r1,r2,r3,-⟩:=q5.four;refine bodyPost_ret (v:=.agg #[.bool rn,.slice rA rk rc,.bool rm,.slice rB rj rd]) (by simp[results,Tryz.results44,go_sem,r0,r1,r2,r3]) rfl ?_;refine⟨?_,_,_,_,_,_,_,_,_,rfl,hr.keptN o q0 (Zcf _ _ _ _ _ _ _ _)⟩;have u:=C.trans ((f.trans (y.mono f.size)).mono C.size);exact u.trans (o.to_below (λk e=>by omega) u.size)
theorem Zwk(z:Int)(w:World) :
    Calls Tryz.prog 161 #[.int .i64 z,.int .i64 0] w λe w'=>e=.returned (.int .i64 z)/\w'=w:=by
 go_enter Tryz.func161,Tryz.ntmps161;go_wp2_with fail;refine(Zcq 0 w).mono ?_;rintro e w1 ⟨rfl,rfl⟩;go_wp2_with fail;go_returns;exact⟨rfl,rfl⟩
theorem Zwg(na:Bool)(A:Option Addr)(n c:Nat)(z:Int)(w:World)(hz:Wd w na A n c z) :
    Calls Tryz.prog 162 #[.agg #[.bool na,.slice A n c]] w λe w'=>e=.returned (.tuple #[.int .i64 (Zeh z 0),.int .i64 0])/\Below w.heap.size w w':=by
 obtain⟨r,hr⟩:∃ r,Zeh z 0=r:=⟨_,rfl⟩;rw[hr];obtain⟨W0,o,hB,q,sz⟩:=Zax w 39 #[.bool na,.slice A n c];replace hz:=Za (hz.below hB);obtain⟨s0,s1,-,-⟩:=q.two;go_enter Tryz.func162,Tryz.ntmps162;go_wp2_with fail;refine(Ztm na false A none n c 0 0 z 0 W0 hz.out (Wd.zero _)).mono ?_;rintro e w1 ⟨rfl,f⟩;have h:=hB.trans (f.mono hB.size);rw[hr];replace hr:=Za hr;go_wp2_with fail;go_returns;exact⟨rfl,h⟩
theorem Zrn(xn:Bool)(xA:Option Addr)(xk xc:Nat)(xm:Bool)(xB:Option Addr)(xj xd:Nat)(q:Rat)(w:World)(h:Fr w xn xA xk xc xm xB xj xd q) :
    Calls Tryz.prog 118 #[.agg #[.bool xn,.slice xA xk xc,.bool xm,.slice xB xj xd]] w λe w'=>e=.returned (.int .i64 (Zeh q.num 0))/\Below w.heap.size w w':=by
 obtain⟨W0,u,f,q0,s0⟩:=Zax w 73 #[.bool xn,.slice xA xk xc,.bool xm,.slice xB xj xd];obtain⟨a0,a1,a2,a3,-⟩:=q0.four;have hX:=h.below f;go_enter Tryz.func118,Tryz.ntmps118;go_wp2_with fail;(try rw[u]);refine(Zwg xn xA xk xc q.num W0 hX.1).mono ?_;rintro e w1 ⟨rfl,o⟩;go_wp2_with fail;refine(Zwk _ w1).mono ?_;rintro e w2 ⟨rfl,rfl⟩;go_wp2_with fail;go_returns;exact⟨rfl,f.trans (o.mono f.size)⟩
def Zih(a:Rat)(qs:List Rat):Nat->Rat
 | 0=>a
 | j+1=>Zih a qs j*(qs[j]?.getD 0)
theorem Zjz(an:Bool)(aA:Option Addr)(ak ac:Nat)(am:Bool)(aB:Option Addr)(aj ad:Nat)(a:Rat)(L:Option Addr)(k cap:Nat)(qs:List Rat)(w:World)(ha:Fr w an aA ak ac am aB aj ad a)(hl:FL w L k cap qs)(hk:k<=100)(hs:∀ j,j<k->Sm (Zih a qs j))(he:∀ j:Nat,j<k->Sm (qs[j]?.getD 0)) :
    Calls Tryz.prog 45 #[.agg #[.bool an,.slice aA ak ac,.bool am,.slice aB aj ad],.slice L k cap] w (Zd0 w (Zih a qs k)):=by
 have a6:=hl.cap;unfold maxLen at a6;obtain⟨W0,a4,a2,⟨q0,q1⟩,s0⟩:=Zfa w 73 #[.bool an,.slice aA ak ac,.bool am,.slice aB aj ad] 73 #[.bool false,.slice none 0 0,.bool false,.slice none 0 0];obtain⟨g0,u⟩:∃ g,w.heap.size=g:=⟨_,rfl⟩;obtain⟨gR,O⟩:∃ g,g0+1=g:=⟨_,rfl⟩;rw[u]at q0 q1 s0 a2;rw[O]at q1;have hA:=ha.below (u▸a2);have b2:Hid (W0.heap.size=gR+1):=Za (by rw[s0];omega);have a8:=Za hl;have b3:=Za hs;have b0:=Za he;have U:=Za u;clear hl hs he;go_enter Tryz.func45,Tryz.ntmps45;go_wp2_with fail;(try rw[a4]);(try rw[u]);(try rw[O]);have a5:=Za O;clear a4 u O
 go_loopg [9] k (λt iv wr=>∃ (i:Nat) (xn:Bool) (xA:Option Addr) (xk xc:Nat) (xm:Bool) (xB:Option Addr) (xj xd:Nat),i+t=k/\iv=.int .i64 i/\Blk wr g0 73 #[.bool xn,.slice xA xk xc,.bool xm,.slice xB xj xd]/\Hid (Fr wr xn xA xk xc xm xB xj xd (Zih a qs i))/\Kept (λk=>k=g0) W0 wr)
 case atStart=>exact⟨0,_,_,_,_,_,_,_,_,by omega,rfl,q0,Za hA,Kept.refl _ _⟩
 case round =>
  obtain⟨i,xn,xA,xk,xc,xm,xB,xj,xd,c8,rfl,V,hX,hK⟩:=hrel;have b9:=b2.out;have b8:=a5.out;have a1:=hK.blk q1 (by omega);have I:Below g0 w wr:=a2.trans (hK.to_below (λk hk=>by omega) (by omega));obtain⟨x0,x1,x2,x3,y0,y1,y2,y3⟩:=V.four;cases gk with
  | zero =>
   obtain rfl:i=k:=by omega
   have t1:decide ((i:Int)<(i:Int))=false:=by simp
   obtain⟨c0,c1,c2,c3,z0,z1,z2,z3⟩:=a1.four;obtain⟨W5,a0,q5,y,s5⟩:=Zbs xn xA xk xc xm xB xj xd a1;go_wp2_with fail;(try rw[a0]);obtain⟨r0,r1,r2,r3,-⟩:=q5.four;refine bodyPost_ret (v:=.agg #[.bool xn,.slice xA xk xc,.bool xm,.slice xB xj xd]) (by simp[results,Tryz.results45,go_sem,r0,r1,r2,r3]) rfl ?_;refine⟨?_,_,_,_,_,_,_,_,_,rfl,hX.out.keptN y a1 (Zcf _ _ _ _ _ _ _ _)⟩;rw[U.out];exact I.trans (y.to_below (λk e=>by omega) (by have:=I.size;have:=hK.size;omega))
  | succ t =>
   obtain rfl:t=k-(i+1):=by omega
   have Y:i<k:=by omega
   have t1:decide ((i:Int)<(k:Int))=true:=decide_eq_true (by omega);have bi:(i:Int)<(k:Int):=by omega
   obtain⟨gl,o,yn,yA,yk,yc,ym,yB,yj,yd,rfl,⟨c0,c1,c2,c3⟩,hY⟩:=(a8.out.below (U.out▸I)).at_ Y;obtain⟨W1,d6,f,p1,s1⟩:=Zax wr 73 #[.bool false,.slice none 0 0,.bool false,.slice none 0 0];obtain⟨gn,b6⟩:∃ g,wr.heap.size=g:=⟨_,rfl⟩;rw[b6]at p1 s1;have c4:=Zd f V;obtain⟨u0,u1,u2,u3,v0,v1,v2,v3⟩:=p1.four;obtain⟨W2,b5,p2,a7,s2⟩:=Zbs yn yA yk yc ym yB yj yd p1;have J:Below wr.heap.size wr W2:=f.trans (a7.to_below (λk e=>by omega) f.size);have b7:=hX.out.below J;have b1:=hY.below J;have T:=Zd J V;obtain⟨m0,m1,m2,m3,n0,n1,n2,n3⟩:=T.four;obtain⟨o0,o1,o2,o3,-⟩:=p2.four;have e0:=Zb f c0;have e1:=Zb f c1;have e2:=Zb f c2;have e3:=Zb f c3;go_wp2_with fail;(try rw[b5]);go_wp2_with fail;refine(Zud xn xm yn ym xA xB yA yB xk xc xj xd yk yc yj yd _ _ W2 b7 b1 (b3.out i Y) (b0.out i Y)).mono ?_;rintro e w3 ⟨h,pn,pA,pk,pc,pm,pB,pj,pd,rfl,hf⟩;go_wp2_with fail;refine(Zji pn pm pA pB pk pc pj pd _ w3 hf).mono ?_;rintro e w4 ⟨a3,rn,rA,rk,rc,rm,rB,rj,rd,rfl,hr⟩;have C:=Zd a3 (Zd h T);obtain⟨d0,c6,d5,c9,d4,c5,d3,c7⟩:=C.four;obtain⟨W5,a0,q5,y,s5⟩:=Zbs rn rA rk rc rm rB rj rd C;clear x0 x1 x2 x3 y0 y1 y2 y3 m0 m1 m2 m3 n0 n1 n2 n3 o0 o1 o2 o3 u0 u1 u2 u3 v0 v1 v2 v3 e0 e1 e2 e3 c0 c1 c2 c3;go_wp2_with fail;(try rw[a0]);have b4:=Za (hr.keptN y C (Zcf _ _ _ _ _ _ _ _));have a9:Kept (λk=>k=g0) W0 W5:=((hK.below J).below (h.trans (a3.mono h.size))).trans y
   go_roundg (k-(i+1))
   case measure=>omega
   case rel=>exact⟨i+1,_,_,_,_,_,_,_,_,by omega,by go_num,q5,b4,a9⟩
theorem Zx5(na nb na' nb':Bool)(A B A' B':Option Addr)(n c m d n' c' m' d':Nat)(a b:Rat)(w:World)(ha:Fr w na A n c nb B m d a)(hb:Fr w na' A' n' c' nb' B' m' d' b)(sa:Sm a)(sb:Sm b)(h0:b≠0) :
    Calls Tryz.prog 67 #[.agg #[.bool na,.slice A n c,.bool nb,.slice B m d],.agg #[.bool na',.slice A' n' c',.bool nb',.slice B' m' d']] w (Zd0 w (a/b)):=by
 obtain⟨W0,I,f,⟨q0,q1,q2⟩,s0⟩:=Zcu w 73 #[.bool na,.slice A n c,.bool nb,.slice B m d] 73 #[.bool na',.slice A' n' c',.bool nb',.slice B' m' d'] 73 #[.bool false,.slice none 0 0,.bool false,.slice none 0 0];obtain⟨a0,a1,a2,a3,-⟩:=q0.four;obtain⟨b0,b1,b2,b3,-⟩:=q1.four;obtain⟨gR,o⟩:∃ g,w.heap.size+1+1=g:=⟨_,rfl⟩;rw[o]at q2;have hA:=ha.below f;have hD:=hb.below f;go_enter Tryz.func67,Tryz.ntmps67;go_wp2_with fail;(try rw[I]);refine(Zqn na nb na' nb' A B A' B' n c m d n' c' m' d' a b W0 hA hD sa sb h0).mono ?_;rintro e w1 ⟨h,pn,pA,pk,pc,pm,pB,pj,pd,rfl,hf⟩;replace q2:=Zd h q2;clear a0 a1 a2 a3 b0 b1 b2 b3 q0 q1 hA hD;go_wp2_with fail;refine(Zji pn pm pA pB pk pc pj pd _ w1 hf).mono ?_;rintro e w2 ⟨C,rn,rA,rk,rc,rm,rB,rj,rd,rfl,hr⟩;replace q2:=Zd C q2;(try rw[o]);obtain⟨c0,c1,c2,c3,z0,z1,z2,z3⟩:=q2.four;obtain⟨W5,J,q5,u,s5⟩:=Zbs rn rA rk rc rm rB rj rd q2;clear hf;go_wp2_with fail;(try rw[J]);obtain⟨r0,r1,r2,r3,-⟩:=q5.four;refine bodyPost_ret (v:=.agg #[.bool rn,.slice rA rk rc,.bool rm,.slice rB rj rd]) (by simp[results,Tryz.results67,go_sem,r0,r1,r2,r3]) rfl ?_;refine⟨?_,_,_,_,_,_,_,_,_,rfl,hr.keptN u q2 (Zcf _ _ _ _ _ _ _ _)⟩;have y:=f.trans ((h.trans (C.mono h.size)).mono f.size);exact y.trans (u.to_below (λk e=>by omega) y.size)
