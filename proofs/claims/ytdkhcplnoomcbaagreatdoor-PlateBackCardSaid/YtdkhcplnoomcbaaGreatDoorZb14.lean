/- Package linear: Rank. Package linear: det. What lies in -/
import Derived.Deep.LoopGhost
import Derived.Test.YtdkhcplnoomcbaaGreatDoorZb13
import Derived.Test.YtdkhcplnoomcbaaGreatDoorZb12
set_option maxRecDepth 100000
set_option maxHeartbeats 8000000
set_option linter.unusedSimpArgs false
set_option linter.unusedVariables false
namespace Go.Proofs.YtdkhcplnoomcbaaGreatDoor
open Go.RowKit
open List renaming getElem?_map→Qa,replicate→Qb,getElem?_replicate→Qd,getElem?_range→Qe,map_cons→Qf,map_nil→Qj,mem_of_getElem?→Qk,getElem?_append_left→Qm,length_map→Qn,getElem?_eq_none→Qp,range→Qq,map_congr_left→Qs,mem_singleton→Qt,ext_getElem?→Qu,not_mem_nil→Qv,length_set→Qw,take_zero→Qx
open Act renaming put→Qc
open Below renaming refl→Qg
open Nat renaming le_refl→Qh,le_trans→Qi,lt_irrefl→Ql
open Option renaming map_some→Qo
open World renaming cell?_of_block→Qr
attribute [local go_sem] Zf
def Zpc(Q:List (List Rat))(n m:Nat):Prop:=(∀ i k,i<n->k<=m->Za4 (Q[i]?.getD []) k<pw 1000)/\∀ i j,(Zv Q i j).num.natAbs<pw 1000
theorem OwnP.poly_at{t:TypeId}{w:World}{base:Nat}{v:Value}{xs:List Int}(h:OwnP t w base v xs):∃ A c,v=.slice A xs.length c/\xs.length<=c/\c<=maxLen/\∀ k,k<xs.length->∃ b neg A1 n1 c1,A=some ⟨b,0,none⟩/\w.cell? ⟨b,k*2,none⟩=some (.bool neg)/\w.cell? ⟨b,k*2+1,none⟩=some (.slice A1 n1 c1)/\Wd w neg A1 n1 c1 (xs[k]?.getD 0):=by
 obtain⟨es,h1,h2,rfl⟩:=h;rcases h1 with ⟨rfl,rfl⟩|⟨g,sp,rfl,h4,h5,h6⟩;exact⟨none,0,rfl,Qh _,Nat.zero_le _,λk hk=>absurd hk Gh⟩;rw[Qn];refine⟨_,es.length+sp,rfl,Nat.le_add_right _ _,h5,λk hk=>?_⟩;have he:=List.getElem?_eq_getElem hk;have hc:=Zh7 (es:=es++Qb sp Zck) (i:=k) (e:=es[k]) (by rw[Qm hk];exact he);have hm:=h2 es[k] (List.getElem_mem hk);refine⟨g,_,_,_,_,rfl,by rw[h6.cell];exact hc.1,by rw[h6.cell];exact hc.2,?_⟩;rw[Qa,he];exact WE.wd hm.1 hm.2
section
variable{tS tF tW tR tI tX tB t:TypeId}{w w' W0:World}{g gn gX gO Bs go2 n c base i:Nat}{A:Option Addr}{L2:List RZ}{L:List RF}{cs:Array Value}{qs part:List Rat}{xs:List Int}{cur:RS}{row:Option Nat}
theorem Zpm{neg:Bool}{A:Option Addr}{n c:Nat}{z:Int}(h:Wd w neg A n c z)(hg:w.grownBy w' row)(hr:∀ r,row=some r->∃ o:Obj,w.heap[r]?=some o/\o.isCells=false):Wd w' neg A n c z:=⟨h.1,h.2.1,Zgd h.2.2 hg hr⟩
theorem Ztr(h:FOwn tF w g qs)(hg:w.grownBy w' row)(hr:∀ r,row=some r->∃ o:Obj,w.heap[r]?=some o/\o.isCells=false):FOwn tF w' g qs:=by
 obtain⟨es,zs,h1,h2,h3⟩:=h;exact⟨es,zs,Zcu h1 hg hr,λe he=>⟨Zpm (h2 e he).1 hg hr,Zpm (h2 e he).2 hg hr⟩,h3⟩
theorem Ztk(h:POwn tW w g xs)(hg:w.grownBy w' row)(hr:∀ r,row=some r->∃ o:Obj,w.heap[r]?=some o/\o.isCells=false):POwn tW w' g xs:=by
 obtain⟨es,h1,h2,h3⟩:=h;exact⟨es,Zcu h1 hg hr,λe he=>⟨Zgd (h2 e he).1 hg hr,(h2 e he).2⟩,h3⟩
theorem Zuf(h:MatZ tR tW w go2 L2)(hg:w.grownBy w' row)(hr:∀ r,row=some r->∃ o:Obj,w.heap[r]?=some o/\o.isCells=false):MatZ tR tW w' go2 L2:=by
 obtain⟨⟨zs,h1⟩,h2,h3⟩:=h;exact⟨⟨zs,Zcu h1 hg hr⟩,λr hr'=>⟨Ztk (h2 r hr').1 hg hr,(h2 r hr').2⟩,h3⟩
theorem Kept.others{G:Nat->Prop}(h:Kept G w w')(hG:∀ k,G k->∃ t cs,Blk w k t cs):KeepsOthers w w':=
 ⟨h.size,λk o hk ho=>(h.block k (Array.getElem?_eq_some_iff.1 hk).1 (λhg=>by
  obtain⟨t,cs,hb⟩:=hG k hg;unfold Blk at hb;rw[hb]at hk;cases hk;exact absurd ho (by simp[Obj.isCells]))).trans hk⟩
def EnvK(tI tX tB tR tW:TypeId)(w:World)(gn gX gO Bs go2 n:Nat)(A:Option Addr)(c:Nat)(L2:List RZ):Prop:=
 Blk w gn tI #[.int .i64 n]/\Blk w gX tX #[.slice (some ⟨gO,0,none⟩) n n]/\Blk w Bs tB #[.slice A n c]/\MatZ tR tW w go2 L2
theorem EnvK.below(h:EnvK tI tX tB tR tW w gn gX gO Bs go2 n A c L2)(hb:Below w.heap.size w w'):EnvK tI tX tB tR tW w' gn gX gO Bs go2 n A c L2:=
 ⟨Zc hb h.1,Zc hb h.2.1,Zc hb h.2.2.1,h.2.2.2.below hb⟩
theorem EnvK.own(h:EnvK tI tX tB tR tW w gn gX gO Bs go2 n A c L2)(hg:w.grownBy w' row)(hr:∀ r,row=some r->∃ o:Obj,w.heap[r]?=some o/\o.isCells=false):EnvK tI tX tB tR tW w' gn gX gO Bs go2 n A c L2:=
 ⟨Zcu h.1 hg hr,Zcu h.2.1 hg hr,Zcu h.2.2.1 hg hr,Zuf h.2.2.2 hg hr⟩
def NoT(tI tX tB tR tW t:TypeId):Prop:=tI≠t/\tX≠t/\tB≠t/\tR≠t/\tW≠t
theorem EnvK.ne(h:EnvK tI tX tB tR tW w gn gX gO Bs go2 n A c L2)(ht:NoT tI tX tB tR tW t)(hb:Blk w g t cs):gn≠g/\gX≠g/\Bs≠g/\go2≠g/\∀ r ∈ L2,r.g≠g:=by
 obtain⟨h1,h2,h3,⟨zs,h4⟩,h5,-⟩:=h;refine⟨λe=>ht.1 ?_,λe=>ht.2.1 ?_,λe=>ht.2.2.1 ?_,λe=>ht.2.2.2.1 ?_,λr hr e=>ht.2.2.2.2 ?_⟩;subst e;exact h1.type hb;subst e;exact h2.type hb;subst e;exact h3.type hb;subst e;exact h4.type hb;obtain⟨es,h6,-,-⟩:=(h5 r hr).1;rw[e]at h6;exact h6.type hb
theorem EnvK.keptG(h:EnvK tI tX tB tR tW w gn gX gO Bs go2 n A c L2)(ht:NoT tI tX tB tR tW t)(hb:Blk w g t cs)(hn:NoLimb cs)(hk:Kept (λk=>k=g) w w'):EnvK tI tX tB tR tW w' gn gX gO Bs go2 n A c L2:=by
 obtain⟨e1,e2,e3,e4,e5⟩:=h.ne ht hb;obtain⟨h1,h2,h3,h4⟩:=h;exact⟨hk.blk h1 e1,hk.blk h2 e2,hk.blk h3 e3,h4.keptG hk e4 e5 (λk hk=>⟨t,cs,hk▸hb,hn⟩)⟩
theorem EnvK.grownT(h:EnvK tI tX tB tR tW w gn gX gO Bs go2 n A c L2)(ht:NoT tI tX tB tR tW t)(hg:w.grownBy w' row)(hr:∀ k,row=some k->∃ cs,Blk w k t cs/\NoLimb cs):EnvK tI tX tB tR tW w' gn gX gO Bs go2 n A c L2:=by
 cases row with
 | none=>exact h.below ⟨hg.os,hg.tape,hg.output,hg.size,λk hk=>hg.block k hk Gh⟩
 | some k =>
  obtain⟨cs,hb,hn⟩:=hr k rfl;exact h.keptG ht hb hn ⟨hg.os,hg.tape,hg.output,hg.size,λj hj hne=>hg.block j hj (by simpa using hne)⟩
theorem EnvK.sl(h:EnvK tI tX tB tR tW w gn gX gO Bs go2 n (some ⟨go2,0,none⟩) c L2)(hl:L2.length=n)(hc:n<=c)(hm:c<=maxLen):SL w (some ⟨go2,0,none⟩) n c (L2.map RZ.rs):=by
 refine⟨by rw[Qn,hl],hc,hm,λ_=>⟨go2,0,rfl,λk e he=>?_⟩⟩;rw[Qa]at he;obtain⟨r,hr,rfl⟩:=Option.map_eq_some_iff.1 he;rw[Nat.zero_add];exact(h.2.2.2.cell hr).1
def OutK(tS tF:TypeId)(w:World)(base gO i:Nat)(L:List RF):Prop:=
 Blk w gO tS (Zao (Qb i Zbl++L.map RF.rs))/\(∀ r ∈ L,(FOwn tF w r.g r.q/\r.q.length<=r.c/\r.c<=maxLen)/\base<=r.g)/\(L.map RF.g).Nodup
theorem OutK.own(h:OutK tS tF w base gO i L)(hg:w.grownBy w' row)(hr:∀ r,row=some r->∃ o:Obj,w.heap[r]?=some o/\o.isCells=false):OutK tS tF w' base gO i L:=
 ⟨Zcu h.1 hg hr,λr hr'=>⟨⟨Ztr (h.2.1 r hr').1.1 hg hr,(h.2.1 r hr').1.2⟩,(h.2.1 r hr').2⟩,h.2.2⟩
def BunK(tI tX tB tR tW tS tF:TypeId)(gn gX gO Bs go2 n:Nat)(A:Option Addr)(c:Nat)(L2:List RZ)(W0:World)(i:Nat)(cur:RS)(part:List Rat)(L:List RF)(w:World):Prop:=
 EnvK tI tX tB tR tW w gn gX gO Bs go2 n A c L2/\Blk w gO tS (Zao (Qb i Zbl++cur::L.map RF.rs))/\OwnF tF w W0.heap.size cur.val part/\(∀ r ∈ L,FOwn tF w r.g r.q)/\Kept (λk=>k=gO) W0 w
theorem BunK.below(h:BunK tI tX tB tR tW tS tF gn gX gO Bs go2 n A c L2 W0 i cur part L w)(hb:Below w.heap.size w w'):BunK tI tX tB tR tW tS tF gn gX gO Bs go2 n A c L2 W0 i cur part L w':=
 ⟨h.1.below hb,Zc hb h.2.1,h.2.2.1.kept hb,λr hr=>(h.2.2.2.1 r hr).below hb,h.2.2.2.2.below hb⟩
theorem BunK.turn(h:BunK tI tX tB tR tW tS tF gn gX gO Bs go2 n A c L2 W0 i cur part L w)(ht:NoT tI tX tB tR tW tF)(hts:tS≠tF){gs:Nat}(hb:Blk w gs tF cs)(hn:NoLimb cs)(hL:∀ r ∈ L,r.g≠gs)(hc:cur.val.ownBlock≠some gs)(hg:W0.heap.size<=gs)(hk:Kept (λk=>k=gs) w w') :
    BunK tI tX tB tR tW tS tF gn gX gO Bs go2 n A c L2 W0 i cur part L w':=by
 obtain⟨h1,h2,h3,h4,h5⟩:=h;have hG:∀ k,k=gs->∃ t cs,Blk w k t cs/\NoLimb cs:=λk hk=>⟨tF,cs,hk▸hb,hn⟩;exact⟨h1.keptG ht hb hn hk,hk.blk h2 (λe=>hts (by subst e;exact h2.type hb)),h3.keptG hb hn hc hk,λr hr=>(h4 r hr).keptG hk (hL r hr) hG,h5.and hk (λk h1 h2=>by omega)⟩
theorem BunK.app(h:BunK tI tX tB tR tW tS tF gn gX gO Bs go2 n A c L2 W0 i cur part L w)(ht:NoT tI tX tB tR tW tF)(htS:NoT tI tX tB tR tW tS)(hts:tS≠tF)(hL0:∀ r ∈ L,r.g<W0.heap.size){cur':RS}{part':List Rat}
    (hg:w.grownBy w' cur.val.ownBlock) (ho:OwnF tF w' W0.heap.size cur'.val part') (hk:∀ (A:Option Addr) (n c:Nat) (l:List Nat),Lim w A n c l->Lim w' A n c l) :
    BunK tI tX tB tR tW tS tF gn gX gO Bs go2 n A c L2 W0 i cur' part' L (w'.setCell ⟨gO,i,none⟩ cur'.val):=by
 obtain⟨h1,h2,h3,h4,h5⟩:=h;have f:=h3.ownBlk;have e1:=h1.grownT ht hg (λk hk=>by obtain⟨cs,a,b,-⟩:=f k hk;exact⟨cs,a,b⟩)
 have u:cur.val.ownBlock≠some gO:=λe=>by
  obtain⟨cs,a,-,-⟩:=f gO e;exact hts (h2.type a)
 have b2:Blk w' gO tS (Zao (Qb i Zbl++cur::L.map RF.rs)):=(hg.block gO h2.lt (λe=>u e.symm)).trans h2
 have f4:∀ r ∈ L,FOwn tF w' r.g r.q:=λr hr=>(h4 r hr).grown hg (λe=>by
  have:=(f _ e).choose_spec.2.2;have:=hL0 r hr;omega) hk
 have k5:Kept (λk=>k=gO) W0 w':=h5.grownG hg (λk hk=>(f k hk).choose_spec.2.2);have o:=Zcg (Qb i Zbl++cur::L.map RF.rs);have kS:Kept (λk=>k=gO) w' (w'.setCell ⟨gO,i,none⟩ cur'.val):=Kept.set_ (G:=λk=>k=gO) (Kept.refl _ _) (p:=⟨gO,i,none⟩) (.inl rfl) _;have hG:∀ k,k=gO->∃ t cs,Blk w' k t cs/\NoLimb cs:=λk hk=>⟨tS,_,hk▸b2,o⟩;refine⟨e1.keptG htS b2 o kS,?_,ho.keptG b2 o (λe=>?_) kS,λr hr=>(f4 r hr).keptG kS (λe=>?_) hG,k5.trans kS⟩
 ·have:=b2.set_ i cur'.val
  rw[show cur'.val=.slice cur'.A cur'.n cur'.c from rfl,Zev cur']at this;rw[List.set_append_right _ _ Gh,List.length_replicate,Nat.sub_self,List.set_cons_zero]at this;exact this
 ·obtain⟨cs,a,-,-⟩:=ho.ownBlk gO e
  exact hts (b2.type a)
 obtain⟨es,zs,a,-,-⟩:=f4 r hr;rw[e]at a;exact hts (b2.type a)
theorem BunK.out(h:BunK tI tX tB tR tW tS tF gn gX gO Bs go2 n A c L2 W0 i cur part L w)(hp:part ≠ [])(hO:OutK tS tF W0 base gO (i+1) L)(hb:base<=W0.heap.size):∃ r:RF,r.q=part/\OutK tS tF w base gO i (r::L):=by
 obtain⟨h1,h2,h3,h4,h5⟩:=h;rcases h3.fown with ⟨e,e2⟩|⟨g,cc,e,hg,u,o,hF⟩;exact absurd e2 hp
 have f:cur=⟨some ⟨g,0,none⟩,part.length,cc⟩:=by
   obtain⟨a,b,d⟩:=cur;simp only[RS.val,Value.slice.injEq]at e;obtain⟨rfl,rfl,rfl⟩:=e;rfl
 subst f;refine⟨⟨g,cc,part⟩,rfl,h2,λr hr=>?_,?_⟩
 ·rcases List.mem_cons.1 hr with rfl|hr
  exact⟨⟨hF,u,o⟩,Qi hb hg⟩;exact⟨⟨h4 r hr,(hO.2.1 r hr).1.2⟩,(hO.2.1 r hr).2⟩
 rw[Qf,List.nodup_cons];refine⟨λhm=>?_,hO.2.2⟩;obtain⟨r,hr,e⟩:=List.mem_map.1 hm;have h1:=(hO.2.1 r hr).1.1.lt;have h2:g=r.g:=e.symm;omega
end
def Zdj(f:Nat->List Rat)(n i t:Nat):List (List Rat):=(Qq n).map λj=>if j<i then f j else if j=i then (f j).take t else []
theorem Zti(f:Nat->List Rat)(n i t:Nat):(Zdj f n i t).length=n:=by unfold Zdj;simp
theorem Zm1{f:Nat->List Rat}{n i t j:Nat}(hj:j<n):(Zdj f n i t)[j]?.getD []=if j<i then f j else if j=i then (f j).take t else []:=by
 unfold Zdj;rw[Qa,Qe hj];rfl
theorem Zrv(f:Nat->List Rat)(n:Nat):Zdj f n 0 0=Qb n []:=by
 unfold Zdj;apply Qu;intro j;rw[Qa];by_cases hj:j<n;rw[Qe hj,Qo,Gw (Nat.not_lt_zero _),Qx,ite_self,Qd,Gx hj];rw[Qp (by simpa using hj),Qd,Gw hj];rfl
theorem Zqv{f:Nat->List Rat}{n i t:Nat}(h:(f i).length<=t):Zdj f n i t=Zdj f n (i+1) 0:=by
 unfold Zdj;refine Qs λj hj=>?_;rcases Nat.lt_trichotomy j i with h1|h1|h1;rw[Gx h1,Gx Gk];subst h1;rw[Gw (Ql _),Gx rfl,Gx Gk,List.take_of_length_le h];rw[Gw Gk,Gw Gk,Gw Gk,Qx,ite_self]
theorem Zt2(f:Nat->List Rat)(n:Nat):Zdj f n n 0=(Qq n).map f:=by
 unfold Zdj;refine Qs λj hj=>?_;rw[Gx (by simpa using hj)]
theorem Zmq{f:Nat->List Rat}{n i t:Nat}{x:Rat}(hi:i<n)(hx:(f i)[t]?=some x):(Zdj f n i t).set i ((Zdj f n i t)[i]?.getD [] ++ [x])=Zdj f n i (t+1):=by
 apply Qu;intro j;rw[List.getElem?_set,Zti,Zm1 hi,Gw (Ql _),Gx rfl];by_cases hij:i=j
 ·subst hij
  rw[Gx rfl,Gx hi];unfold Zdj;rw[Qa,Qe hi,Qo,Gw (Ql _),Gx rfl,List.take_add_one,hx];rfl
 rw[Gw hij];unfold Zdj;rw[Qa,Qa];by_cases hj:j<n
 ·rw[Qe hj]
  simp only[Qo,Option.some.injEq];by_cases h:j<i;rw[Gx h,Gx h];rw[Gw h,Gw h,Gw Gk,Gw Gk]
 rw[Qp (by simpa using hj)];rfl
def Z7(rs:List RI)(k i:Nat):Int:=((rs[i]?.map RI.l).getD [])[k]?.getD 0
def Zau(l:List Int)(i:Nat):Int:=l[i]?.getD 0
def Zgl(rs:List RI)(rr ws:List Int)(n m i:Nat):List Rat:=(Qq m).map (λk=>((Zb5 ws (Z7 rs i) (Z7 rs k) n:Int):Rat)) ++ [((Zb5 ws (Z7 rs i) (Zau rr) n:Int):Rat)]
def Zbz(rs:List RI)(rr ws:List Int)(n m:Nat):List (List Rat):=(Qq m).map (Zgl rs rr ws n m)
theorem Zfa(rs:List RI)(rr ws:List Int)(n m i:Nat):(Zgl rs rr ws n m i).length=m+1:=by unfold Zgl;simp
theorem Zqb{rs:List RI}{rr ws:List Int}{n m i k:Nat}(h:k<m):(Zgl rs rr ws n m i)[k]?=some ((Zb5 ws (Z7 rs i) (Z7 rs k) n:Int):Rat):=by
 unfold Zgl;rw[Qm (by simpa using h),Qa,Qe h];rfl
theorem Zm9{rs:List RI}{rr ws:List Int}{n m i:Nat}:(Zgl rs rr ws n m i)[m]?=some ((Zb5 ws (Z7 rs i) (Zau rr) n:Int):Rat):=by
 unfold Zgl;rw[List.getElem?_append_right Gh];simp
theorem Zr9{rs:List RI}{i k:Nat}{r:RI}(h:rs[i]?=some r):Z7 rs k i=r.l[k]?.getD 0:=by unfold Z7;rw[h];rfl
theorem MIL.i64{w:World}{A:Option Addr}{n c:Nat}{rs:List RI}(h:MIL w A n c rs)(k i:Nat):I64 (Z7 rs k i):=by
 unfold Z7;cases hr:rs[i]? with
 | none=>unfold I64;simp
 | some r=>exact Zf1 (h.2.2.2.1 r (Qk hr)).2.2.2.1 k
def colG(gR:Nat)(k:Nat)(v:Value)(w:World):Prop:=∃ g,v=.func (.func 112) #[] #[.pointer (some ⟨gR,0,none⟩),.pointer (some ⟨g,0,none⟩)]/\Blk w g 3 #[.int .i64 k]
def fracG(v:Value)(q:Rat)(w:World):Prop:=∃ na A n c nb B m d,v=.agg #[.bool na,.slice A n c,.bool nb,.slice B m d]/\Fr w na A n c nb B m d q
theorem Zk1{gR k:Nat}{v:Value}{w w':World}(hb:Below w.heap.size w w')(h:colG gR k v w):colG gR k v w':=by
 obtain⟨g,e,h1⟩:=h;exact⟨g,e,Zc hb h1⟩
theorem Zpp{v:Value}{q:Rat}{w w':World}(hb:Below w.heap.size w w')(h:fracG v q w):fracG v q w':=by
 exact FU
def Zho(c1 c2 dt:Nat)(gR i k:Nat)(q:Rat)(j:Nat)(v:Value)(w:World):Prop:=if j=c1 then colG gR i v w else if j=c2 then colG gR k v w else if j=dt then fracG v q w else True
theorem Zlf{c1 c2 dt gR i k:Nat}{q:Rat}{j:Nat}{v:Value}{w w':World}(hb:Below w.heap.size w w')(h:Zho c1 c2 dt gR i k q j v w):Zho c1 c2 dt gR i k q j v w':=by
 unfold Zho at h ⊢
 split at h
 rename_i e;rw[Gx e];exact Zk1 hb h;rename_i e;rw[Gw e];clear e
 split at h
 rename_i e;rw[Gx e];exact Zk1 hb h;rename_i e;rw[Gw e];clear e
 split at h
 rename_i e;rw[Gx e];exact Zpp hb h;rename_i e;rw[Gw e];trivial
theorem Zjj(x y z:Value)(W:World):(callFunc 112 #[x,y,z]).run Tryz.prog W=.ok (.enter 112 #[x,y,z]) W:=by simp[go_sem]
theorem Zr2(x y:Value)(W:World):(callFunc 113 #[x,y]).run Tryz.prog W=.ok (.enter 113 #[x,y]) W:=by simp[go_sem]
theorem Zjc(gR k:Nat)(w:World) :
    Calls Tryz.prog 111 #[.int .i64 k,.pointer (some ⟨gR,0,none⟩)] w λe w'=>∃ v,e=.returned v/\Below w.heap.size w w'/\colG gR k v w':=by
 obtain⟨W0,h,f,q0,s0⟩:=Zbp w 3 #[.int .i64 k];go_in;go_wp2_with fail;(try rw[h]);go_ret;exact⟨_,rfl,f,_,rfl,q0⟩
theorem Ig{G:Prop}(h:G:=by
 go_wp2_with fail;go_ret;exact⟨rfl,by first|exact Below.refl _ _|exact Zg (Below.refl _ _) _⟩):G:=h
theorem Zh9(A:Option Addr)(n c m:Nat)(rs:List RI)(gR g k i:Nat)(w:World)(h:MIL w A n c rs)(hR:w.cell? ⟨gR,0,none⟩=some (.slice A n c))(hg:w.cell? ⟨g,0,none⟩=some (.int .i64 k))(hi:i<n)(hk:k<m)(hm:∀ r ∈ rs,r.n=m)(hm9:m<=900)(hn9:n<=900) :
    Calls Tryz.prog 112 #[.int .i64 i,.pointer (some ⟨gR,0,none⟩),.pointer (some ⟨g,0,none⟩)] w λe w'=>e=.returned (.int .i64 (Z7 rs k i))/\Below w.heap.size w w':=by
 obtain⟨ga,oa,r,rfl,hr,c0,hL⟩:=h.at_ hi;have u:=hm r (Qk hr);have hl:=hL.1;obtain⟨gb,ob,o,f⟩:=hL.2.2.2.2 Gk;have c1:=f k Gk;rw[Zr9 hr];rw[o,u]at c0;obtain⟨z,hz⟩:=Gz (r.l[k]?.getD 0);rw[hz]at c1 ⊢;clear hz;have b1:(i:Int)<(n:Int):=Gk;have b2:(k:Int)<(m:Int):=Gk;clear h hL f hr hm;go_in;go_wp2_with fail
 go_quiet (fail)
 exact Ig
theorem side_ok(B:Option Addr)(n d:Nat)(rr:List Int)(gT i:Nat)(w:World)(h:LimI w B n d rr)(hT:w.cell? ⟨gT,0,none⟩=some (.slice B n d))(hi:i<n)(hn9:n<=900) :
    Calls Tryz.prog 113 #[.int .i64 i,.pointer (some ⟨gT,0,none⟩)] w λe w'=>e=.returned (.int .i64 (Zau rr i))/\Below w.heap.size w w':=by
 obtain⟨gb,ob,rfl,f⟩:=h.2.2.2.2 Gk;have c1:=f i hi;have b1:(i:Int)<(n:Int):=Gk;unfold Zau;clear h f;go_in;exact Ig
theorem IK{G:Prop}(h:G:=by
 obtain⟨A,c,e,-⟩:=aJ.fl;exact⟨_,_,_,e⟩):G:=h
theorem IU{G:Prop}(h:G:=by
 obtain⟨cs,a1,-,-⟩:=ah base e;obtain⟨⟨zs,a2⟩,-⟩:=cG;exact fM (a2.type a1)):G:=h
theorem FJ{G:Prop}(h:G:=by
 rw[World.frozen?_of_block (aQ.block base (by obtain⟨⟨zs,a2⟩,-⟩:=cG;exact a2.lt) (λe=>bP e.symm))];exact(cG.cell dM).2):G:=h
theorem FT{G:Prop}(h:G:=by
 rintro e w5 ⟨ao,cb,A5,k5,c5,dO,B5,m5,d5,rfl,aw⟩;exact hK.out _ _ ⟨_,rfl,(by simp only[Zho];exact⟨_,_,_,_,_,_,_,_,rfl,aw⟩),ao,trivial⟩):G:=h
theorem Fo{G:Prop}(h:G:=by
 rintro e w5 ⟨v5,rfl,ao,iX⟩;exact hK.out _ _ ⟨_,rfl,(by simp only[Zho];exact iX),ao,trivial⟩):G:=h
theorem Cq{G:Prop}(h:G:=by
 intro ν wx hb hP;refine Zj (i:=9) rfl (λK hK=>?_);go_simp;refine(Zjc gR i wx).mono ?_;exact Fo):G:=h
theorem Zqn(A B C:Option Addr)(n c d e0 m:Nat)(rs:List RI)(rr ws:List Int)(w:World)(h:MIL w A n c rs)(hr:LimI w B n d rr)(hw:LimI w C n e0 ws)(hn0:0<n)(hn9:n<=900)(hm0:0<m)(hm9:m<=900)(a5:∀ r ∈ rs,r.n=m) :
    Calls Tryz.prog 86 #[.slice A n c,.slice B n d,.slice C n e0] w λe w'=>∃ go rs',e=.returned (.slice (some ⟨go,0,none⟩) m m)/\Below w.heap.size w w'/\rs'.length=m/\∃ base,w.heap.size<=base/\MatA 25 32 w' base go rs' (Zbz rs rr ws n m):=by
 have hmx:=Gt;have fM:(25:TypeId)≠32:=Gi;obtain⟨iF,hi,e7,g2,f7⟩:=info_parts Zg9;obtain⟨iS,ki,h6,g7,h8⟩:=info_parts Zop;obtain⟨V0,h0,a9,⟨p0,p1⟩,sV⟩:=Zcs w 104 #[.slice A n c] 63 #[.slice B n d];obtain⟨gR,d8⟩:=Gz w.heap.size;rw[d8]at p0 p1;obtain⟨gT,e2⟩:=Gz (gR+1);rw[e2]at p1;obtain⟨base,b0⟩:=Gz V0.heap.size;obtain⟨W0,c8⟩:=Gz (V0.alloc (.cells (Zao (Qb m Zbl)) 25));have I:Below base V0 W0:=by rw[<- c8,<- b0];exact(Qg _ _).alloc (Qh _) _
 have q0:Blk W0 base 25 (Zao (Qb m Zbl)):=by rw[<- c8,<- b0];exact Blk.new _ _ _
 have e9:w.heap.size<=base:=by rw[<- b0];exact a9.size
 have c3:base<=W0.heap.size:=by rw[<- c8];simp[b0]
 have g1:Below V0.heap.size V0 W0:=by rw[b0];exact I
 have b7:∀ wx,Below base W0 wx->Below V0.heap.size V0 wx:=λwx hb=>by rw[b0];exact I.trans hb
 have e6:Hid (∀ wx,Below base W0 wx->MIL wx A n c rs):=Zb (λwx hb=>(h.below a9).below (b7 wx hb));have e8:Hid (∀ wx,Below base W0 wx->LimI wx B n d rr):=Zb (λwx hb=>(hr.below a9).below (b7 wx hb));have f4:Hid (∀ wx,Below base W0 wx->LimI wx C n e0 ws):=Zb (λwx hb=>(hw.below a9).below (b7 wx hb));have cR:Hid (∀ wx,Below base W0 wx->wx.cell? ⟨gR,0,none⟩=some (.slice A n c)):=Zb (λwx hb=>Za (b7 wx hb) (p0.cell 0));have cT:Hid (∀ wx,Below base W0 wx->wx.cell? ⟨gT,0,none⟩=some (.slice B n d)):=Zb (λwx hb=>Za (b7 wx hb) (p1.cell 0))
 have f3:Hid (MatA 25 32 W0 base base (Qb m Zbl) (Zdj (Zgl rs rr ws n m) m 0 0)):=Zb (by
  rw[Zrv];refine⟨⟨[],by rw[List.append_nil];exact q0⟩,Qh _,by simp,λi r hr=>?_,λi j r s k hr hs hij h1=>?_⟩
  ·rw[Qd]at hr
   split at hr
   ·rename_i hi
    cases hr;rw[Qd,Gx hi];exact OwnF.nil _ _ _
   cases hr
  rw[Qd]at hr
  split at hr
  cases hr;cases h1;cases hr)
 obtain⟨g0,o0,r0,f0,a4,f5,-⟩:=(h.below a9).at_ (i:=0) hn0;rw[f0]at p0;have e5:=a5 r0 (Qk a4);rw[Nat.add_zero,e5]at f5;have h2:V0.cell? ⟨gR,0,none⟩=some (.slice (some ⟨g0,o0,none⟩) n c):=p0.cell 0;have g9:=Zso (P:=Tryz.prog) 135 25 Tryz.underlying135 ki h6 g7 h8 (m:Int) m rfl Gk V0;subst f0;replace a5:=Zb a5;replace g5:=Zb (Gs a9 g1);replace hr:=Zb hr;clear p0 p1 q0 I h hw a4 g1 b7;have g6:gT+1=base:=Gk;subst h0;go_in;go_wp2_with fail;replace d8:=Zb d8;replace e2:=Zb e2;replace g6:=Zb g6;clear h2 f5 g9 b0 c8 sV a9
 go_loopg [21] m (λk iv wr=>∃ (i:Nat) (c7:List RS),i+k=m/\iv=.int .i64 i/\Hid (c7.length=m)/\MatA 25 32 wr base base c7 (Zdj (Zgl rs rr ws n m) m i 0)/\Below base W0 wr)
 case atStart=>exact⟨0,Qb m Zbl,by omega,rfl,Zb Gh,f3.out,Qg _ _⟩
 case round =>
  clear f3;obtain⟨i,c7,i0,rfl,b3,hM,U⟩:=hrel;cases gk with
  | zero =>
   obtain rfl:i=m:=Gk;have t2:decide ((i:Int)<(i:Int))=false:=Gh;have g8:=g5.out.trans (U.mono e9);rw[Zt2]at hM;replace hM:=Zb hM;go_wp2_with fail;go_ret;exact⟨base,c7,rfl,g8,b3.out,base,e9,hM.out⟩
  | succ k' =>
   obtain rfl:k'=m-(i+1):=Gk;have b6:i<m:=Gk;have t2:decide ((i:Int)<(m:Int))=true:=Gv Gk;have bi:(i:Int)<(m:Int):=Gk;replace hM:=Zb hM;replace U:=Zb U;go_wp2_with fail
   go_loopg [26] m (λk kv wx=>∃ (t:Nat) (b8:List RS),t+k=m/\kv=.int .i64 t/\Hid (b8.length=m)/\MatA 25 32 wx base base b8 (Zdj (Zgl rs rr ws n m) m i t)/\Below base W0 wx)
   case atStart=>exact⟨0,c7,by omega,rfl,b3,hM.out,U.out⟩
   case round =>
    clear hM U b3;obtain⟨t,b8,h9,rfl,b3,hM,U⟩:=hrel
    have d0:((Zdj (Zgl rs rr ws n m) m i t)[i]?.getD []).length+1<=1000:=by
     rw[Zm1 b6,Gw (Ql _),Gx rfl,List.length_take,Zfa];omega
    have f:base<=wr.heap.size:=Qi c3 U.size;obtain⟨r,dM⟩:=Zc8 (L:=b8) (i:=i) (by rw[b3.out];exact b6);obtain⟨cr,zr⟩:=hM.cell dM;replace hM:=Zb hM;replace d0:=Zb d0;cases gk with
    | zero =>
     obtain rfl:m=t:=Gk;have t3:decide ((m:Int)<(m:Int))=false:=Gh;go_wp2_with fail;obtain⟨X0,b4⟩:=Gz wr.drew;have E:Below wr.heap.size wr X0:=by rw[<- b4];exact Zg (Qg _ _) 1
     have u:Hid (∀ wx,Below wr.heap.size wr wx->wx.cell? ⟨base,i,none⟩=some (.slice r.A r.n r.c)):=Zb (λwx O=>Za O cr);refine wp_heldS [15] hmx u (by rw[b4];exact E) (λhxs=>?_);rw[b4];refine Zin 10 [0,1,2,3,4,5,6,7,8,10] rfl Gj (u.out _ E) ?_
     iterate 10 (refine tkA ?_;try simp only[Qc,Zf6,Zfl,Zfx,Gr,Gq,Gp])
     refine tk0 ?_;refine Zbk [(9,56),(11,58)] (λ_=>[]) [(9,56),(11,58)] (Zho 9 99 11 gR i 0 ((Zb5 ws (Z7 rs i) (Zau rr) n:Int):Rat)) 4 Gj (λ_ _ _ _ _ hb h=>Zlf hb h) (λwx h=>u.out _ (Gs E h)) ?hop ?hfin
     case hop =>
      intro p hp;simp only[List.mem_cons,Qv,or_false]at hp;simp only[Qf,Qj,Zaj,Qc,Zf6,Zfl,Zfx];rcases hp with rfl|rfl;exact Cq;intro ν wx hb hP;have O:=U.trans ((Gs E hb).mono f);have a3:=e6.out wx O;have d7:=f4.out wx O;have c9:=cR.out wx O;have f6:=cT.out wx O;have f8:=e8.out wx O;have h3:=hP (9,56) Gh Gj;simp only[Zho]at h3;obtain⟨g3,hν3,d3⟩:=h3;rw[hν3];refine Zj (i:=11) rfl (λK hK=>?_);go_simp;refine(Zs0 112 113 #[.pointer (some ⟨gR,0,none⟩),.pointer (some ⟨g3,0,none⟩)] #[.pointer (some ⟨gT,0,none⟩)] C n e0 ws (Z7 rs i) (Zau rr) wx d7 hn9 (λj _=>a3.i64 _ _) (λj _=>Zf1 hr.out.2.2.2.1 j) (λx W=>Zjj _ _ _ W) (λx W=>Zr2 _ _ W) (λW j I hj=>Zh9 _ n c m rs gR g3 i j W (a3.below I) (Za I c9) (Za I (d3.cell 0)) hj b6 a5.out hm9 hn9) (λW j I hj=>side_ok B n d rr gT j W (f8.below I) (Za I f6) hj hn9)).mono ?_;exact FT
     case hfin =>
      intro ν X00 hb00 hP;have h3:=hP (9,56) Gh;have h5:=hP (11,58) Gh;simp only[Zho]at h3 h5;obtain⟨g3,h3,-⟩:=h3
      skip
      obtain⟨n6,A6,k6,c6,m6,B6,j6,d6,h5,c4⟩:=h5;simp only[Qf,Qj,Zaj,Qc,Zf6,Zfl,Zfx];rw[h3,h5];clear h3 h5 hP ν;have a4:Below wr.heap.size wr X00:=Gs E hb00;obtain⟨Y1,a6⟩:=Gz (X00.alloc (.cells #[.bool n6,.slice A6 k6 c6,.bool m6,.slice B6 j6 d6] 32));obtain⟨ga,b2⟩:=Gz X00.heap.size;have b5:Below X00.heap.size X00 Y1:=by rw[<- a6];exact(Qg _ _).alloc (Qh _) _
      have c2:Blk Y1 ga 32 #[.bool n6,.slice A6 k6 c6,.bool m6,.slice B6 j6 d6]:=by rw[<- a6,<- b2];exact Blk.new _ _ _
      have J:Below wr.heap.size wr Y1:=Gs a4 b5;refine wpAnyL_o 12 λK hK=>?_;go_simp;(try rw[a6]);(try rw[b2]);refine hK.out _ _ (λ_=>u.out _ J) ?_;clear hK K a6 b2
      try simp only[Qc,Zf6,Zfl,Zfx]
      have cG:=(hM.out).below J;have b9:=c4.below b5;have e1:base<=Y1.heap.size:=Qi f J.size;have b1:=cG.2.2.2.1 i r dM;refine wpAnyL_o 13 λK hK=>?_;rw[Gx Gc];refine Zf7 _ (.tmp 52) (.tmp 59) 25 rfl base 32 iF Tryz.underlying25 hi e7 g2 f7 (r).val _ rfl b1 _ (some ⟨ga,0,none⟩) 1 1 [⟨n6,A6,k6,c6,m6,B6,j6,d6,((Zb5 ws (Z7 rs i) (Zau rr) n:Int):Rat)⟩] rfl (Zhz _ c2) rfl (by intro e he;rw[Qt]at he;subst he;exact b9) d0.out e1 ?_;intro v2 Y2 aJ aQ c1 c0
      obtain⟨nA,nn,nc,rfl⟩:∃ A n c,v2=.slice A n c:=by
       exact IK
      have ah:=b1.ownBlk
      have a0:∀ (g o:Nat) (v:Value),(r).val.ownBlock≠some g->Y1.cell? ⟨g,o,none⟩=some v->Y2.cell? ⟨g,o,none⟩=some v:=λg o v hgg hv=>by
       rw[<- hv];exact Qr (aQ.block g (Zn hv) (λe=>hgg e.symm))
      have a8:=Zb (cG.app fM (i:=i) (r':=⟨nA,nn,nc⟩) dM aQ aJ c1 c0);rw[Qf,Qj,show (FE.q ⟨n6,A6,k6,c6,m6,B6,j6,d6,((Zb5 ws (Z7 rs i) (Zau rr) n:Int):Rat)⟩)=((Zb5 ws (Z7 rs i) (Zau rr) n:Int):Rat) from rfl,Zmq b6 (Zm9)]at a8
      have bP:r.val.ownBlock≠some base:=λe=>by
       exact IU
      have a7:Y2.cell? ⟨base,i,none⟩=some (.slice r.A r.n r.c):=a0 _ _ _ bP (u.out _ J);have e4:Hid (Below base W0 (Y2.setCell ⟨base,i,none⟩ (RS.val ⟨nA,nn,nc⟩))):=Zb (((U.trans (J.mono f)).grown aQ (Qi c3 (U.trans (J.mono f)).size) (λk hk=>(ah k hk).choose_spec.2.2)).setCell a8.out.2.1 _)
      have d9:Y2.frozen? ⟨base,i,none⟩=false:=by
       exact FJ
      refine hK.out _ _ (λ_=>a7) ?_;clear hK K
      try simp only[Qc,Zf6,Zfl,Zfx]
      refine Zfm 1 [14] rfl Gj a7 ?_
      (refine tkA ?_;try simp only[Qc,Zf6,Zfl,Zfx,Gr,Gq,Gp])
      refine tk0 ?_;have d4:=a7;have e3:Hid ((b8.set i ⟨nA,nn,nc⟩).length=m):=Zb (by rw[Qw];exact b3.out);clear a7 aJ ah b1 cG b9 c2 b5 J a0 bP;refine Zr (i:=15) rfl Gj Gj (λK hK=>?_);go_simp;refine hK.out _ _ ?_;clear hK K
      try simp only[Qc,Zf6,Zfl,Zfx]
      refine wpAnyL_fin ?_;clear d4 d9 hxs u E a4 hb00 c4 cr zr aQ c1 c0;go_wp2_with fail;rw[Zqv (by rw[Zfa];exact Qh _)]at a8
      go_roundg (m-(i+1))
      case measure=>omega
      case rel=>exact⟨i+1,_,by omega,by go_num,e3,a8.out,e4.out⟩
    | succ k2 =>
     obtain rfl:k2=m-(t+1):=Gk;have f9:t<m:=Gk;have t3:decide ((t:Int)<(m:Int))=true:=Gv Gk;go_wp2_with fail;obtain⟨X0,b4⟩:=Gz wr.drew;have E:Below wr.heap.size wr X0:=by rw[<- b4];exact Zg (Qg _ _) 1
     have u:Hid (∀ wx,Below wr.heap.size wr wx->wx.cell? ⟨base,i,none⟩=some (.slice r.A r.n r.c)):=Zb (λwx O=>Za O cr);refine wp_heldS [17] hmx u (by rw[b4];exact E) (λhxs=>?_);rw[b4];refine Zin 11 [0,1,2,3,4,5,6,7,8,10,11] rfl Gj (u.out _ E) ?_
     iterate 11 (refine tkA ?_;try simp only[Qc,Zf6,Zfl,Zfx,Gr,Gq,Gp])
     refine tk0 ?_;refine Zbk [(9,38),(12,41),(13,42)] (λ_=>[]) [(9,38),(12,41),(13,42)] (Zho 9 12 13 gR i t ((Zb5 ws (Z7 rs i) (Z7 rs t) n:Int):Rat)) 4 Gj (λ_ _ _ _ _ hb h=>Zlf hb h) (λwx h=>u.out _ (Gs E h)) ?hop ?hfin
     case hop =>
      intro p hp;simp only[List.mem_cons,Qv,or_false]at hp;simp only[Qf,Qj,Zaj,Qc,Zf6,Zfl,Zfx];rcases hp with rfl|rfl|rfl;exact Cq
      ·intro ν wx hb hP
       refine Zj (i:=12) rfl (λK hK=>?_);go_simp;refine(Zjc gR t wx).mono ?_;exact Fo
      intro ν wx hb hP;have O:=U.trans ((Gs E hb).mono f);have a3:=e6.out wx O;have d7:=f4.out wx O;have c9:=cR.out wx O;have f6:=cT.out wx O;have f8:=e8.out wx O;have h3:=hP (9,38) Gh Gj;simp only[Zho]at h3;obtain⟨g3,hν3,d3⟩:=h3;rw[hν3];have h4:=hP (12,41) Gh Gj;simp only[Zho]at h4;obtain⟨g4,hν4,h7⟩:=h4;rw[hν4];refine Zj (i:=13) rfl (λK hK=>?_);go_simp;refine(Zs0 112 112 #[.pointer (some ⟨gR,0,none⟩),.pointer (some ⟨g3,0,none⟩)] #[.pointer (some ⟨gR,0,none⟩),.pointer (some ⟨g4,0,none⟩)] C n e0 ws (Z7 rs i) (Z7 rs t) wx d7 hn9 (λj _=>a3.i64 _ _) (λj _=>a3.i64 _ _) (λx W=>Zjj _ _ _ W) (λx W=>Zjj _ _ _ W) (λW j I hj=>Zh9 _ n c m rs gR g3 i j W (a3.below I) (Za I c9) (Za I (d3.cell 0)) hj b6 a5.out hm9 hn9) (λW j I hj=>Zh9 _ n c m rs gR g4 t j W (a3.below I) (Za I c9) (Za I (h7.cell 0)) hj f9 a5.out hm9 hn9)).mono ?_;exact FT
     case hfin =>
      intro ν X00 hb00 hP;have h3:=hP (9,38) Gh;have h5:=hP (13,42) Gh;have h4:=hP (12,41) Gh;simp only[Zho]at h3 h5 h4;obtain⟨g3,h3,-⟩:=h3;obtain⟨g4,h4,-⟩:=h4;obtain⟨n6,A6,k6,c6,m6,B6,j6,d6,h5,c4⟩:=h5;simp only[Qf,Qj,Zaj,Qc,Zf6,Zfl,Zfx];rw[h3,h4,h5];clear h3 h4 h5 hP ν;have a4:Below wr.heap.size wr X00:=Gs E hb00;obtain⟨Y1,a6⟩:=Gz (X00.alloc (.cells #[.bool n6,.slice A6 k6 c6,.bool m6,.slice B6 j6 d6] 32));obtain⟨ga,b2⟩:=Gz X00.heap.size;have b5:Below X00.heap.size X00 Y1:=by rw[<- a6];exact(Qg _ _).alloc (Qh _) _
      have c2:Blk Y1 ga 32 #[.bool n6,.slice A6 k6 c6,.bool m6,.slice B6 j6 d6]:=by rw[<- a6,<- b2];exact Blk.new _ _ _
      have J:Below wr.heap.size wr Y1:=Gs a4 b5;refine wpAnyL_o 14 λK hK=>?_;go_simp;(try rw[a6]);(try rw[b2]);refine hK.out _ _ (λ_=>u.out _ J) ?_;clear hK K a6 b2
      try simp only[Qc,Zf6,Zfl,Zfx]
      have cG:=(hM.out).below J;have b9:=c4.below b5;have e1:base<=Y1.heap.size:=Qi f J.size;have b1:=cG.2.2.2.1 i r dM;refine wpAnyL_o 15 λK hK=>?_;rw[Gx Gc];refine Zf7 _ (.tmp 34) (.tmp 43) 25 rfl base 32 iF Tryz.underlying25 hi e7 g2 f7 (r).val _ rfl b1 _ (some ⟨ga,0,none⟩) 1 1 [⟨n6,A6,k6,c6,m6,B6,j6,d6,((Zb5 ws (Z7 rs i) (Z7 rs t) n:Int):Rat)⟩] rfl (Zhz _ c2) rfl (by intro e he;rw[Qt]at he;subst he;exact b9) d0.out e1 ?_;intro v2 Y2 aJ aQ c1 c0
      obtain⟨nA,nn,nc,rfl⟩:∃ A n c,v2=.slice A n c:=by
       exact IK
      have ah:=b1.ownBlk
      have a0:∀ (g o:Nat) (v:Value),(r).val.ownBlock≠some g->Y1.cell? ⟨g,o,none⟩=some v->Y2.cell? ⟨g,o,none⟩=some v:=λg o v hgg hv=>by
       rw[<- hv];exact Qr (aQ.block g (Zn hv) (λe=>hgg e.symm))
      have a8:=Zb (cG.app fM (i:=i) (r':=⟨nA,nn,nc⟩) dM aQ aJ c1 c0);rw[Qf,Qj,show (FE.q ⟨n6,A6,k6,c6,m6,B6,j6,d6,((Zb5 ws (Z7 rs i) (Z7 rs t) n:Int):Rat)⟩)=((Zb5 ws (Z7 rs i) (Z7 rs t) n:Int):Rat) from rfl,Zmq b6 (Zqb f9)]at a8
      have bP:r.val.ownBlock≠some base:=λe=>by
       exact IU
      have a7:Y2.cell? ⟨base,i,none⟩=some (.slice r.A r.n r.c):=a0 _ _ _ bP (u.out _ J);have e4:Hid (Below base W0 (Y2.setCell ⟨base,i,none⟩ (RS.val ⟨nA,nn,nc⟩))):=Zb (((U.trans (J.mono f)).grown aQ (Qi c3 (U.trans (J.mono f)).size) (λk hk=>(ah k hk).choose_spec.2.2)).setCell a8.out.2.1 _)
      have d9:Y2.frozen? ⟨base,i,none⟩=false:=by
       exact FJ
      refine hK.out _ _ (λ_=>a7) ?_;clear hK K
      try simp only[Qc,Zf6,Zfl,Zfx]
      refine Zfm 1 [16] rfl Gj a7 ?_
      (refine tkA ?_;try simp only[Qc,Zf6,Zfl,Zfx,Gr,Gq,Gp])
      refine tk0 ?_;have d4:=a7;have e3:Hid ((b8.set i ⟨nA,nn,nc⟩).length=m):=Zb (by rw[Qw];exact b3.out);clear a7 aJ ah b1 cG b9 c2 b5 J a0 bP;refine Zr (i:=17) rfl Gj Gj (λK hK=>?_);go_simp;refine hK.out _ _ ?_;clear hK K
      try simp only[Qc,Zf6,Zfl,Zfx]
      refine wpAnyL_fin ?_;clear d4 d9 hxs u E a4 hb00 c4 cr zr aQ c1 c0;go_wp2_with fail
      go_roundg (m-(t+1))
      case measure=>omega
      case rel=>exact⟨t+1,_,by omega,by go_num,e3,a8.out,e4.out⟩
theorem Zk9(na:Bool)(a:List Nat):Zfg na na a a=true:=by
 unfold Zfg
 have:Zch a a=0:=by
  unfold Zch;simp
 rw[this];simp
theorem Zqo(na nb:Bool)(A B A' B':Option Addr)(n c m d n' c' m' d':Nat)(la lb:List Nat)(w:World)(ha:Lim w A n c la)(hb:Lim w B m d lb)(u:Lim w A' n' c' la)(o:Lim w B' m' d' lb) :
    Calls Tryz.prog 14 #[.agg #[.bool na,.slice A n c,.bool nb,.slice B m d],.agg #[.bool na,.slice A' n' c',.bool nb,.slice B' m' d']] w λe w'=>e=.returned (.bool true)/\Below w.heap.size w w':=by
 obtain⟨W0,C,f,⟨q0,q1⟩,s0⟩:=Zcs w 32 #[.bool na,.slice A n c,.bool nb,.slice B m d] 32 #[.bool na,.slice A' n' c',.bool nb,.slice B' m' d'];replace ha:=Zb (ha.below f);replace hb:=Zb (hb.below f);replace u:=Zb (u.below f);replace o:=Zb (o.below f);obtain⟨a0,a1,a2,a3,-⟩:=q0.four;obtain⟨b0,b1,b2,b3,-⟩:=q1.four;have hq:=Zb (And.intro q0 q1);clear q0 q1;go_in;go_wp2_with fail;refine(Zel na na A A' n c n' c' _ _ W0 ha.out u.out).mono ?_;rw[Zk9];rintro e w1 ⟨rfl,h⟩;have ab:Below w.heap.size w w1:=Gs f h;obtain⟨q0,q1⟩:=hq.out;replace q0:=Zc h q0;replace q1:=Zc h q1;clear C a0 a1 a2 a3 b0 b1 b2 b3 hq f;obtain⟨a0,a1,a2,a3,-⟩:=q0.four;obtain⟨b0,b1,b2,b3,-⟩:=q1.four;clear q0 q1;go_wp2_with fail;refine(Zel nb nb B B' m d m' d' _ _ w1 (hb.out.below h) (o.out.below h)).mono ?_;rw[Zk9];exact FN
structure DF where
 na:Bool
 la:List Nat
 nb:Bool
 lb:List Nat
def XL(w:World)(A:Option Addr)(n c:Nat)(ds:List DF):Prop:=
 ds.length=n/\n<=c/\c<=maxLen/\∀ (k:Nat) (d:DF),ds[k]?=some d->∃ g o A1 n1 c1 B1 m1 d1,A=some ⟨g,o,none⟩/\At4 w g (o+k*4) d.na A1 n1 c1 d.nb B1 m1 d1/\Lim w A1 n1 c1 d.la/\Lim w B1 m1 d1 d.lb
section
variable{w w':World}{A:Option Addr}{n c:Nat}{ds:List DF}{D:List (List DF)}
theorem XL.below(h:XL w A n c ds)(hb:Below w.heap.size w w'):XL w' A n c ds:=by
 obtain⟨h1,h2,h3,h4⟩:=h;refine⟨h1,h2,h3,λk d hd=>?_⟩;obtain⟨g,o,A1,n1,c1,B1,m1,d1,e,a,b,b'⟩:=h4 k d hd;exact⟨g,o,A1,n1,c1,B1,m1,d1,e,a.below hb,b.below hb,b'.below hb⟩
def dfQ(q:Rat):DF:=⟨decide (q.num<0),digits q.num.natAbs,false,digits q.den⟩
theorem FL.xl{qs:List Rat}(h:FL w A n c qs):XL w A n c (qs.map dfQ):=by
 have hl:=h.len;refine⟨by rw[Qn,hl],h.cap.1,h.cap.2,λk d hd=>?_⟩;rw[Qa]at hd;obtain⟨q,hq,rfl⟩:=Option.map_eq_some_iff.1 hd;have hk:k<n:=by have:=(List.getElem?_eq_some_iff.1 hq).1;omega
 obtain⟨g,o,na,A1,n1,c1,nb,B,m,d,e1,e2,e3⟩:=h.at_ hk;rw[hq,Option.getD_some]at e3;have h1:=e3.1.1;have h2:=e3.2.1;have h3:=e3.2.2.2;rw[Int.natAbs_natCast]at h3;have h4:nb=false:=by rw[h2];exact Gu Gk
 subst h1 h4;exact⟨g,o,_,_,_,_,_,_,e1,e2,e3.1.2.2,h3⟩
theorem XL.nil(w:World):XL w none 0 0 []:=⟨rfl,Qh _,Nat.zero_le _,λk d hd=>(by cases hd)⟩
end
theorem Zip(A B:Option Addr)(n c d:Nat)(ds:List DF)(w:World)(ha:XL w A n c ds)(hb:XL w B n d ds) :
    Calls Tryz.prog 50 #[.slice A n c,.slice B n d] w λe w'=>e=.returned (.bool true)/\Below w.heap.size w w':=by
 have hmx:=Gt;have hl:=Zb ha.1;have hc:=ha.2.1;have a2:=ha.2.2.1;have hd:=hb.2.1;have a3:=hb.2.2.1;unfold maxLen at a2 a3;replace ha:=Zb ha;replace hb:=Zb hb;have t0:(((n:Int)) != (n:Int))=false:=Gh
 go_in;go_wp2_with fail
 go_loopg [5] n (λk iv wr=>∃ i:Nat,i+k=n/\iv=.int .i64 i/\Below w.heap.size w wr)
 case atStart=>exact⟨0,by omega,rfl,Qg _ _⟩
 case round =>
  obtain⟨i,a7,rfl,hB⟩:=hrel;cases gk with
  | zero =>
   obtain rfl:i=n:=Gk;have t1:decide ((i:Int)<(i:Int))=false:=Gh;go_wp2_with fail;go_ret;exact⟨rfl,hB⟩
  | succ k' =>
   obtain rfl:k'=n-(i+1):=Gk;have a4:i<n:=Gk;have t1:decide ((i:Int)<(n:Int))=true:=Gv Gk;have bi:(i:Int)<(n:Int):=Gk;obtain⟨x,hx⟩:=Zc8 (L:=ds) (i:=i) (by rw[hl.out];exact a4);obtain⟨g,o,A1,n1,c1,B1,m1,d1,rfl,⟨r0,r1,r2,r3⟩,l1,l2⟩:=(ha.out.below hB).2.2.2 i x hx;obtain⟨g',o',a1,a0,U,Y,O,J,rfl,⟨s0,s1,s2,s3⟩,C,I⟩:=(hb.out.below hB).2.2.2 i x hx;replace l1:=Zb l1;replace l2:=Zb l2;replace C:=Zb C;replace I:=Zb I;go_wp2_with fail;obtain⟨X0,u⟩:=Gz wr.drew;have h:Below wr.heap.size wr X0:=by rw[<- u];exact Zg (Qg _ _) 1
   have f:Hid (∀ wx,Below wr.heap.size wr wx->wx.cell? ⟨g,o+i*4,none⟩=some (.bool x.na)/\wx.cell? ⟨g,o+i*4+1,none⟩=some (.slice A1 n1 c1)/\wx.cell? ⟨g,o+i*4+2,none⟩=some (.bool x.nb)/\wx.cell? ⟨g,o+i*4+3,none⟩=some (.slice B1 m1 d1)/\wx.cell? ⟨g',o'+i*4,none⟩=some (.bool x.na)/\wx.cell? ⟨g',o'+i*4+1,none⟩=some (.slice a1 a0 U)/\wx.cell? ⟨g',o'+i*4+2,none⟩=some (.bool x.nb)/\wx.cell? ⟨g',o'+i*4+3,none⟩=some (.slice Y O J)):=Zb (λwx hbx=>⟨Za hbx r0,Za hbx r1,Za hbx r2,Za hbx r3,Za hbx s0,Za hbx s1,Za hbx s2,Za hbx s3⟩);refine wp_heldS [] hmx f (by rw[u];exact h) (λhxs=>?_);rw[u];refine Zin 8 [0,1,2,3,4,5,6,7] rfl Gj (f.out _ h) ?_
   iterate 8 (refine tkA ?_;try simp only[Qc,Zf6,Zfl,Zfx,Gr,Gq,Gp])
   refine tk0 ?_;refine wpAnyL_o 8 λK hK=>?_;go_simp;refine(Zqo x.na x.nb A1 B1 a1 Y n1 c1 m1 d1 a0 U O J x.la x.lb X0 (l1.out.below h) (l2.out.below h) (C.out.below h) (I.out.below h)).mono ?_;rintro e w3 ⟨rfl,a6⟩;have E:=Gs h a6;have a5:=Gs hB E;refine hK.out _ _ (λ_=>f.out _ E) ?_;clear hK K
   try simp only[Qc,Zf6,Zfl,Zfx]
   refine Zfm 1 [9] rfl Gj (f.out _ E) ?_
   (refine tkA ?_;try simp only[Qc,Zf6,Zfl,Zfx,Gr,Gq,Gp])
   refine tk0 ?_;refine wpAnyL_fin ?_;clear hxs f;go_wp2_with fail
   go_roundg (n-(i+1))
   case measure=>omega
   case rel=>exact⟨i+1,by omega,by go_num,a5⟩
theorem Zem{rs:List RI}{rr ws:List Int}(h:Zdv rs rr ws=0):rs.length<=200/\(∀ r ∈ rs,r.n<=12)/\n0I rs≠0/\ws.length=rs.length/\rr.length=rs.length/\Zfw 1 ws=false/\Zfw (-1099511627776) rr=false/\∀ r ∈ rs,r.n=n0I rs/\Zfw (-1099511627776) r.l=false:=by
 unfold Zdv at h
 split at h
 cases h;rename_i h1
 split at h
 ·rename_i h2
  simp only[Ziz,Bool.or_eq_true,decide_eq_true_eq,not_or,List.any_eq_true,not_exists,RI.long,not_and]at h1;simp only[Zpj,Bool.and_eq_true,Bool.not_eq_true',decide_eq_false_iff_not,decide_eq_true_eq,List.all_eq_true,Zmj]at h2;obtain⟨a1,a2,a3,a4,a5,a6⟩:=h2;exact⟨by omega,λr hr=>by have:=h1.2 r hr;omega,a1,a2,a3,a4,a5,a6⟩
 cases h
