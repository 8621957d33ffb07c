/- Package linear: det. What lies in memory while package -/
import Derived.Deep.LoopGhost
import Derived.Test.YthappeninglakaaGreatZa16
set_option maxRecDepth 100000
set_option maxHeartbeats 8000000
set_option linter.unusedSimpArgs false
set_option linter.unusedVariables false
namespace Go.Proofs.YthappeninglakaaGreat
open Go.RowKit
open List renaming replicate→Qa,getElem?_map→Qb,getElem?_replicate→Qd,getElem?_range→Qe,getElem?_append_left→Qg,map_cons→Qi,length_map→Qj,mem_of_getElem?→Ql,getElem?_eq_getElem→Qm,map_nil→Qn,range→Qo,map_congr_left→Qs,getElem?_append_right→Qu,length_take→Qv,take_of_length_le→Qw,set_append_right→Qy,getElem?_eq_none→Qz,set_cons_zero→QC,mem_singleton→QD,ext_getElem?→QE,take_add_one→QF,not_mem_nil→QG,length_set→QH,take_zero→QJ
open Act renaming put→Qc
open Nat renaming le_trans→Qf,le_refl→Qk,lt_irrefl→Qt,zero_add→QA,sub_self→QB,min_eq_left→QI
open Below renaming refl→Qh
open Option renaming getD_some→Qp,map_some→Qq,map_eq_some_iff→Qx
open World renaming cell?_of_block→Qr
attribute [local go_sem] Zi
theorem OwnP.poly_at{t:TypeId}{w:World}{base:Nat}{v:Value}{xs:List Int}(h:OwnP t w base v xs):∃ A c,v=.slice A xs.length c/\xs.length<=c/\c<=maxLen/\∀ k,k<xs.length->∃ b neg A1 n1 c1,A=some ⟨b,0,none⟩/\w.cell? ⟨b,k*2,none⟩=some (.bool neg)/\w.cell? ⟨b,k*2+1,none⟩=some (.slice A1 n1 c1)/\Wd w neg A1 n1 c1 (xs[k]?.getD 0):=by
 obtain⟨es,h1,h2,rfl⟩:=h;rcases h1 with ⟨rfl,rfl⟩|⟨g,sp,rfl,h4,h5,h6⟩;exact⟨none,0,rfl,Qk _,Nat.zero_le _,λk hk=>absurd hk Gh⟩;rw[Qj];refine⟨_,es.length+sp,rfl,Nat.le_add_right _ _,h5,λk hk=>?_⟩;have he:=Qm hk;have hc:=Zjs (es:=es++Qa sp Zcv) (i:=k) (e:=es[k]) (by rw[Qg hk];exact he);have hm:=h2 es[k] (List.getElem_mem hk);refine⟨g,_,_,_,_,rfl,by rw[h6.cell];exact hc.1,by rw[h6.cell];exact hc.2,?_⟩;rw[Qb,he];exact WE.wd hm.1 hm.2
section
variable{tS tF tW tR tI tX tB t:TypeId}{w w' W0:World}{g gn gX gO Bs go2 n c base i:Nat}{A:Option Addr}{L2:List RZ}{L:List RF}{cs:Array Value}{qs part:List Rat}{xs:List Int}{cur:RS}{row:Option Nat}
theorem Zsi{neg:Bool}{A:Option Addr}{n c:Nat}{z:Int}(h:Wd w neg A n c z)(hg:w.grownBy w' row)(hr:∀ r,row=some r->∃ o:Obj,w.heap[r]?=some o/\o.isCells=false):Wd w' neg A n c z:=⟨h.1,h.2.1,Zhi h.2.2 hg hr⟩
theorem Zxv(h:FOwn tF w g qs)(hg:w.grownBy w' row)(hr:∀ r,row=some r->∃ o:Obj,w.heap[r]?=some o/\o.isCells=false):FOwn tF w' g qs:=by
 obtain⟨es,zs,h1,h2,h3⟩:=h;exact⟨es,zs,Zde h1 hg hr,λe he=>⟨Zsi (h2 e he).1 hg hr,Zsi (h2 e he).2 hg hr⟩,h3⟩
theorem Zxn(h:POwn tW w g xs)(hg:w.grownBy w' row)(hr:∀ r,row=some r->∃ o:Obj,w.heap[r]?=some o/\o.isCells=false):POwn tW w' g xs:=by
 obtain⟨es,h1,h2,h3⟩:=h;exact⟨es,Zde h1 hg hr,λe he=>⟨Zhi (h2 e he).1 hg hr,(h2 e he).2⟩,h3⟩
theorem Zyv(h:MatZ tR tW w go2 L2)(hg:w.grownBy w' row)(hr:∀ r,row=some r->∃ o:Obj,w.heap[r]?=some o/\o.isCells=false):MatZ tR tW w' go2 L2:=by
 obtain⟨⟨zs,h1⟩,h2,h3⟩:=h;exact⟨⟨zs,Zde h1 hg hr⟩,λr hr'=>⟨Zxn (h2 r hr').1 hg hr,(h2 r hr').2⟩,h3⟩
theorem Kept.others{G:Nat->Prop}(h:Kept G w w')(hG:∀ k,G k->∃ t cs,Blk w k t cs):KeepsOthers w w':=
 ⟨h.size,λk o hk ho=>(h.block k (Array.getElem?_eq_some_iff.1 hk).1 (λhg=>by
  obtain⟨t,cs,hb⟩:=hG k hg;unfold Blk at hb;rw[hb]at hk;cases hk;exact absurd ho (by simp[Obj.isCells]))).trans hk⟩
def EnvK(tI tX tB tR tW:TypeId)(w:World)(gn gX gO Bs go2 n:Nat)(A:Option Addr)(c:Nat)(L2:List RZ):Prop:=
 Blk w gn tI #[.int .i64 n]/\Blk w gX tX #[.slice (some ⟨gO,0,none⟩) n n]/\Blk w Bs tB #[.slice A n c]/\MatZ tR tW w go2 L2
theorem EnvK.below(h:EnvK tI tX tB tR tW w gn gX gO Bs go2 n A c L2)(hb:Below w.heap.size w w'):EnvK tI tX tB tR tW w' gn gX gO Bs go2 n A c L2:=
 ⟨Ze hb h.1,Ze hb h.2.1,Ze hb h.2.2.1,h.2.2.2.below hb⟩
theorem EnvK.own(h:EnvK tI tX tB tR tW w gn gX gO Bs go2 n A c L2)(hg:w.grownBy w' row)(hr:∀ r,row=some r->∃ o:Obj,w.heap[r]?=some o/\o.isCells=false):EnvK tI tX tB tR tW w' gn gX gO Bs go2 n A c L2:=
 ⟨Zde h.1 hg hr,Zde h.2.1 hg hr,Zde h.2.2.1 hg hr,Zyv h.2.2.2 hg hr⟩
def NoT(tI tX tB tR tW t:TypeId):Prop:=tI≠t/\tX≠t/\tB≠t/\tR≠t/\tW≠t
theorem EnvK.ne(h:EnvK tI tX tB tR tW w gn gX gO Bs go2 n A c L2)(ht:NoT tI tX tB tR tW t)(hb:Blk w g t cs):gn≠g/\gX≠g/\Bs≠g/\go2≠g/\∀ r ∈ L2,r.g≠g:=by
 obtain⟨h1,h2,h3,⟨zs,h4⟩,h5,-⟩:=h;refine⟨λe=>ht.1 ?_,λe=>ht.2.1 ?_,λe=>ht.2.2.1 ?_,λe=>ht.2.2.2.1 ?_,λr hr e=>ht.2.2.2.2 ?_⟩;subst e;exact h1.type hb;subst e;exact h2.type hb;subst e;exact h3.type hb;subst e;exact h4.type hb;obtain⟨es,h6,-,-⟩:=(h5 r hr).1;rw[e]at h6;exact h6.type hb
theorem EnvK.keptG(h:EnvK tI tX tB tR tW w gn gX gO Bs go2 n A c L2)(ht:NoT tI tX tB tR tW t)(hb:Blk w g t cs)(hn:NoLimb cs)(hk:Kept (λk=>k=g) w w'):EnvK tI tX tB tR tW w' gn gX gO Bs go2 n A c L2:=by
 obtain⟨e1,e2,e3,e4,e5⟩:=h.ne ht hb;obtain⟨h1,h2,h3,h4⟩:=h;exact⟨hk.blk h1 e1,hk.blk h2 e2,hk.blk h3 e3,h4.keptG hk e4 e5 (λk hk=>⟨t,cs,hk▸hb,hn⟩)⟩
theorem EnvK.grownT(h:EnvK tI tX tB tR tW w gn gX gO Bs go2 n A c L2)(ht:NoT tI tX tB tR tW t)(hg:w.grownBy w' row)(hr:∀ k,row=some k->∃ cs,Blk w k t cs/\NoLimb cs):EnvK tI tX tB tR tW w' gn gX gO Bs go2 n A c L2:=by
 cases row with
 | none=>exact h.below ⟨hg.os,hg.tape,hg.output,hg.size,λk hk=>hg.block k hk Gh⟩
 | some k =>
  obtain⟨cs,hb,hn⟩:=hr k rfl;exact h.keptG ht hb hn ⟨hg.os,hg.tape,hg.output,hg.size,λj hj hne=>hg.block j hj (by simpa using hne)⟩
theorem EnvK.sl(h:EnvK tI tX tB tR tW w gn gX gO Bs go2 n (some ⟨go2,0,none⟩) c L2)(hl:L2.length=n)(hc:n<=c)(hm:c<=maxLen):SL w (some ⟨go2,0,none⟩) n c (L2.map RZ.rs):=by
 refine⟨by rw[Qj,hl],hc,hm,λ_=>⟨go2,0,rfl,λk e he=>?_⟩⟩;rw[Qb]at he;obtain⟨r,hr,rfl⟩:=Option.map_eq_some_iff.1 he;rw[QA];exact(h.2.2.2.cell hr).1
def OutK(tS tF:TypeId)(w:World)(base gO i:Nat)(L:List RF):Prop:=
 Blk w gO tS (Z7 (Qa i Za8++L.map RF.rs))/\(∀ r ∈ L,(FOwn tF w r.g r.q/\r.q.length<=r.c/\r.c<=maxLen)/\base<=r.g)/\(L.map RF.g).Nodup
theorem OutK.own(h:OutK tS tF w base gO i L)(hg:w.grownBy w' row)(hr:∀ r,row=some r->∃ o:Obj,w.heap[r]?=some o/\o.isCells=false):OutK tS tF w' base gO i L:=
 ⟨Zde h.1 hg hr,λr hr'=>⟨⟨Zxv (h.2.1 r hr').1.1 hg hr,(h.2.1 r hr').1.2⟩,(h.2.1 r hr').2⟩,h.2.2⟩
def BunK(tI tX tB tR tW tS tF:TypeId)(gn gX gO Bs go2 n:Nat)(A:Option Addr)(c:Nat)(L2:List RZ)(W0:World)(i:Nat)(cur:RS)(part:List Rat)(L:List RF)(w:World):Prop:=
 EnvK tI tX tB tR tW w gn gX gO Bs go2 n A c L2/\Blk w gO tS (Z7 (Qa i Za8++cur::L.map RF.rs))/\OwnF tF w W0.heap.size cur.val part/\(∀ r ∈ L,FOwn tF w r.g r.q)/\Kept (λk=>k=gO) W0 w
theorem BunK.below(h:BunK tI tX tB tR tW tS tF gn gX gO Bs go2 n A c L2 W0 i cur part L w)(hb:Below w.heap.size w w'):BunK tI tX tB tR tW tS tF gn gX gO Bs go2 n A c L2 W0 i cur part L w':=
 ⟨h.1.below hb,Ze hb h.2.1,h.2.2.1.kept hb,λr hr=>(h.2.2.2.1 r hr).below hb,h.2.2.2.2.below hb⟩
theorem BunK.turn(h:BunK tI tX tB tR tW tS tF gn gX gO Bs go2 n A c L2 W0 i cur part L w)(ht:NoT tI tX tB tR tW tF)(hts:tS≠tF){gs:Nat}(hb:Blk w gs tF cs)(hn:NoLimb cs)(hL:∀ r ∈ L,r.g≠gs)(hc:cur.val.ownBlock≠some gs)(hg:W0.heap.size<=gs)(hk:Kept (λk=>k=gs) w w') :
    BunK tI tX tB tR tW tS tF gn gX gO Bs go2 n A c L2 W0 i cur part L w':=by
 obtain⟨h1,h2,h3,h4,h5⟩:=h;have hG:∀ k,k=gs->∃ t cs,Blk w k t cs/\NoLimb cs:=λk hk=>⟨tF,cs,hk▸hb,hn⟩;exact⟨h1.keptG ht hb hn hk,hk.blk h2 (λe=>hts (by subst e;exact h2.type hb)),h3.keptG hb hn hc hk,λr hr=>(h4 r hr).keptG hk (hL r hr) hG,h5.and hk (λk h1 h2=>by omega)⟩
theorem BunK.app(h:BunK tI tX tB tR tW tS tF gn gX gO Bs go2 n A c L2 W0 i cur part L w)(ht:NoT tI tX tB tR tW tF)(htS:NoT tI tX tB tR tW tS)(hts:tS≠tF)(hL0:∀ r ∈ L,r.g<W0.heap.size){cur':RS}{part':List Rat}
    (hg:w.grownBy w' cur.val.ownBlock) (ho:OwnF tF w' W0.heap.size cur'.val part') (hk:∀ (A:Option Addr) (n c:Nat) (l:List Nat),Lim w A n c l->Lim w' A n c l) :
    BunK tI tX tB tR tW tS tF gn gX gO Bs go2 n A c L2 W0 i cur' part' L (w'.setCell ⟨gO,i,none⟩ cur'.val):=by
 obtain⟨h1,h2,h3,h4,h5⟩:=h;have f:=h3.ownBlk;have e1:=h1.grownT ht hg (λk hk=>by obtain⟨cs,a,b,-⟩:=f k hk;exact⟨cs,a,b⟩)
 have u:cur.val.ownBlock≠some gO:=λe=>by
  obtain⟨cs,a,-,-⟩:=f gO e;exact hts (h2.type a)
 have b2:Blk w' gO tS (Z7 (Qa i Za8++cur::L.map RF.rs)):=(hg.block gO h2.lt (λe=>u e.symm)).trans h2
 have f4:∀ r ∈ L,FOwn tF w' r.g r.q:=λr hr=>(h4 r hr).grown hg (λe=>by
  have:=(f _ e).choose_spec.2.2;have:=hL0 r hr;omega) hk
 have k5:Kept (λk=>k=gO) W0 w':=h5.grownG hg (λk hk=>(f k hk).choose_spec.2.2);have o:=Zbe (Qa i Za8++cur::L.map RF.rs);have kS:Kept (λk=>k=gO) w' (w'.setCell ⟨gO,i,none⟩ cur'.val):=Kept.set_ (G:=λk=>k=gO) (Kept.refl _ _) (p:=⟨gO,i,none⟩) (.inl rfl) _;have hG:∀ k,k=gO->∃ t cs,Blk w' k t cs/\NoLimb cs:=λk hk=>⟨tS,_,hk▸b2,o⟩;refine⟨e1.keptG htS b2 o kS,?_,ho.keptG b2 o (λe=>?_) kS,λr hr=>(f4 r hr).keptG kS (λe=>?_) hG,k5.trans kS⟩
 ·have:=b2.set_ i cur'.val
  rw[show cur'.val=.slice cur'.A cur'.n cur'.c from rfl,Zdz cur']at this;rw[Qy _ _ Gh,List.length_replicate,QB,QC]at this;exact this
 ·obtain⟨cs,a,-,-⟩:=ho.ownBlk gO e
  exact hts (b2.type a)
 obtain⟨es,zs,a,-,-⟩:=f4 r hr;rw[e]at a;exact hts (b2.type a)
theorem BunK.out(h:BunK tI tX tB tR tW tS tF gn gX gO Bs go2 n A c L2 W0 i cur part L w)(hp:part ≠ [])(hO:OutK tS tF W0 base gO (i+1) L)(hb:base<=W0.heap.size):∃ r:RF,r.q=part/\OutK tS tF w base gO i (r::L):=by
 obtain⟨h1,h2,h3,h4,h5⟩:=h;rcases h3.fown with ⟨e,e2⟩|⟨g,cc,e,hg,u,o,hF⟩;exact absurd e2 hp
 have f:cur=⟨some ⟨g,0,none⟩,part.length,cc⟩:=by
   obtain⟨a,b,d⟩:=cur;simp only[RS.val,Value.slice.injEq]at e;obtain⟨rfl,rfl,rfl⟩:=e;rfl
 subst f;refine⟨⟨g,cc,part⟩,rfl,h2,λr hr=>?_,?_⟩
 ·rcases List.mem_cons.1 hr with rfl|hr
  exact⟨⟨hF,u,o⟩,Qf hb hg⟩;exact⟨⟨h4 r hr,(hO.2.1 r hr).1.2⟩,(hO.2.1 r hr).2⟩
 rw[Qi,List.nodup_cons];refine⟨λhm=>?_,hO.2.2⟩;obtain⟨r,hr,e⟩:=List.mem_map.1 hm;have h1:=(hO.2.1 r hr).1.1.lt;have h2:g=r.g:=e.symm;omega
end
def Zd3(f:Nat->List Rat)(n i t:Nat):List (List Rat):=(Qo n).map λj=>if j<i then f j else if j=i then (f j).take t else []
theorem Zxl(f:Nat->List Rat)(n i t:Nat):(Zd3 f n i t).length=n:=by unfold Zd3;simp
theorem Zpe{f:Nat->List Rat}{n i t j:Nat}(hj:j<n):(Zd3 f n i t)[j]?.getD []=if j<i then f j else if j=i then (f j).take t else []:=by
 unfold Zd3;rw[Qb,Qe hj];rfl
theorem Zvi(f:Nat->List Rat)(n:Nat):Zd3 f n 0 0=Qa n []:=by
 unfold Zd3;apply QE;intro j;rw[Qb];by_cases hj:j<n;rw[Qe hj,Qq,Gw (Nat.not_lt_zero _),QJ,ite_self,Qd,Gx hj];rw[Qz (by simpa using hj),Qd,Gw hj];rfl
theorem Zt5{f:Nat->List Rat}{n i t:Nat}(h:(f i).length<=t):Zd3 f n i t=Zd3 f n (i+1) 0:=by
 unfold Zd3;refine Qs λj hj=>?_;rcases Nat.lt_trichotomy j i with h1|h1|h1;rw[Gx h1,Gx Gk];subst h1;rw[Gw (Qt _),Gx rfl,Gx Gk,Qw h];rw[Gw Gk,Gw Gk,Gw Gk,QJ,ite_self]
theorem Zyf(f:Nat->List Rat)(n:Nat):Zd3 f n n 0=(Qo n).map f:=by
 unfold Zd3;refine Qs λj hj=>?_;rw[Gx (by simpa using hj)]
theorem Zo2{f:Nat->List Rat}{n i t:Nat}{x:Rat}(hi:i<n)(hx:(f i)[t]?=some x):(Zd3 f n i t).set i ((Zd3 f n i t)[i]?.getD [] ++ [x])=Zd3 f n i (t+1):=by
 apply QE;intro j;rw[List.getElem?_set,Zxl,Zpe hi,Gw (Qt _),Gx rfl];by_cases hij:i=j
 ·subst hij
  rw[Gx rfl,Gx hi];unfold Zd3;rw[Qb,Qe hi,Qq,Gw (Qt _),Gx rfl,QF,hx];rfl
 rw[Gw hij];unfold Zd3;rw[Qb,Qb];by_cases hj:j<n
 ·rw[Qe hj]
  simp only[Qq,Option.some.injEq];by_cases h:j<i;rw[Gx h,Gx h];rw[Gw h,Gw h,Gw Gk,Gw Gk]
 rw[Qz (by simpa using hj)];rfl
def Zcg(rs:List RI)(k i:Nat):Int:=((rs[i]?.map RI.l).getD [])[k]?.getD 0
def Zju(l:List Int)(i:Nat):Int:=l[i]?.getD 0
def Zf3(rs:List RI)(rr ws:List Int)(n m i:Nat):List Rat:=(Qo m).map (λk=>((Zc3 ws (Zcg rs i) (Zcg rs k) n:Int):Rat)) ++ [((Zc3 ws (Zcg rs i) (Zju rr) n:Int):Rat)]
def Zo9(rs:List RI)(rr ws:List Int)(n m:Nat):List (List Rat):=(Qo m).map (Zf3 rs rr ws n m)
theorem Zk4(rs:List RI)(rr ws:List Int)(n m i:Nat):(Zf3 rs rr ws n m i).length=m+1:=by unfold Zf3;simp
theorem Z1q{rs:List RI}{rr ws:List Int}{n m i k:Nat}(h:k<m):(Zf3 rs rr ws n m i)[k]?=some ((Zc3 ws (Zcg rs i) (Zcg rs k) n:Int):Rat):=by
 unfold Zf3;rw[Qg (by simpa using h),Qb,Qe h];rfl
theorem Zyp{rs:List RI}{rr ws:List Int}{n m i:Nat}:(Zf3 rs rr ws n m i)[m]?=some ((Zc3 ws (Zcg rs i) (Zju rr) n:Int):Rat):=by
 unfold Zf3;rw[Qu Gh];simp
theorem colI_at{rs:List RI}{i k:Nat}{r:RI}(h:rs[i]?=some r):Zcg rs k i=r.l[k]?.getD 0:=by unfold Zcg;rw[h];rfl
theorem MIL.i64{w:World}{A:Option Addr}{n c:Nat}{rs:List RI}(h:MIL w A n c rs)(k i:Nat):I64 (Zcg rs k i):=by
 unfold Zcg;cases hr:rs[i]? with
 | none=>unfold I64;simp
 | some r=>exact Zkt (h.2.2.2.1 r (Ql hr)).2.2.2.1 k
def colG(gR:Nat)(k:Nat)(v:Value)(w:World):Prop:=∃ g,v=.func (.func 92) #[] #[.pointer (some ⟨gR,0,none⟩),.pointer (some ⟨g,0,none⟩)]/\Blk w g 3 #[.int .i64 k]
def fracG(v:Value)(q:Rat)(w:World):Prop:=∃ na A n c nb B m d,v=.agg #[.bool na,.slice A n c,.bool nb,.slice B m d]/\Fr w na A n c nb B m d q
theorem Znc{gR k:Nat}{v:Value}{w w':World}(hb:Below w.heap.size w w')(h:colG gR k v w):colG gR k v w':=by
 obtain⟨g,e,h1⟩:=h;exact⟨g,e,Ze hb h1⟩
theorem Zsl{v:Value}{q:Rat}{w w':World}(hb:Below w.heap.size w w')(h:fracG v q w):fracG v q w':=by
 exact FZ
def Zi3(c1 c2 dt:Nat)(gR i k:Nat)(q:Rat)(j:Nat)(v:Value)(w:World):Prop:=if j=c1 then colG gR i v w else if j=c2 then colG gR k v w else if j=dt then fracG v q w else True
theorem Znk{c1 c2 dt gR i k:Nat}{q:Rat}{j:Nat}{v:Value}{w w':World}(hb:Below w.heap.size w w')(h:Zi3 c1 c2 dt gR i k q j v w):Zi3 c1 c2 dt gR i k q j v w':=by
 unfold Zi3 at h ⊢
 split at h
 rename_i e;rw[Gx e];exact Znc hb h;rename_i e;rw[Gw e];clear e
 split at h
 rename_i e;rw[Gx e];exact Znc hb h;rename_i e;rw[Gw e];clear e
 split at h
 rename_i e;rw[Gx e];exact Zsl hb h;rename_i e;rw[Gw e];trivial
theorem Zll(x y z:Value)(W:World):(callFunc 92 #[x,y,z]).run Tryz.prog W=.ok (.enter 92 #[x,y,z]) W:=by simp[go_sem]
theorem Zvv(x y:Value)(W:World):(callFunc 93 #[x,y]).run Tryz.prog W=.ok (.enter 93 #[x,y]) W:=by simp[go_sem]
theorem Zk6(gR k:Nat)(w:World) :
    Calls Tryz.prog 91 #[.int .i64 k,.pointer (some ⟨gR,0,none⟩)] w λe w'=>∃ v,e=.returned v/\Below w.heap.size w w'/\colG gR k v w':=by
 obtain⟨W0,h,f,q0,s0⟩:=Zao w 3 #[.int .i64 k];go_in;go_wp2_with fail;(try rw[h]);go_ret;exact⟨_,rfl,f,_,rfl,q0⟩
theorem Zjt(A:Option Addr)(n c m:Nat)(rs:List RI)(gR g k i:Nat)(w:World)(h:MIL w A n c rs)(hR:w.cell? ⟨gR,0,none⟩=some (.slice A n c))(hg:w.cell? ⟨g,0,none⟩=some (.int .i64 k))(hi:i<n)(hk:k<m)(hm:∀ r ∈ rs,r.n=m)(hm9:m<=900)(hn9:n<=900) :
    Calls Tryz.prog 92 #[.int .i64 i,.pointer (some ⟨gR,0,none⟩),.pointer (some ⟨g,0,none⟩)] w λe w'=>e=.returned (.int .i64 (Zcg rs k i))/\Below w.heap.size w w':=by
 obtain⟨ga,oa,r,rfl,hr,c0,hL⟩:=h.at_ hi;have u:=hm r (Ql hr);have hl:=hL.1;obtain⟨gb,ob,o,f⟩:=hL.2.2.2.2 Gk;have c1:=f k Gk;rw[colI_at hr];rw[o,u]at c0;obtain⟨z,hz⟩:=Gz (r.l[k]?.getD 0);rw[hz]at c1 ⊢;clear hz;have b1:(i:Int)<(n:Int):=Gk;have b2:(k:Int)<(m:Int):=Gk;clear h hL f hr hm;go_in;go_wp2_with fail
 go_quiet (fail)
 exact Fl
theorem side_ok(B:Option Addr)(n d:Nat)(rr:List Int)(gT i:Nat)(w:World)(h:LimI w B n d rr)(hT:w.cell? ⟨gT,0,none⟩=some (.slice B n d))(hi:i<n)(hn9:n<=900) :
    Calls Tryz.prog 93 #[.int .i64 i,.pointer (some ⟨gT,0,none⟩)] w λe w'=>e=.returned (.int .i64 (Zju rr i))/\Below w.heap.size w w':=by
 obtain⟨gb,ob,rfl,f⟩:=h.2.2.2.2 Gk;have c1:=f i hi;have b1:(i:Int)<(n:Int):=Gk;unfold Zju;clear h f;go_in;exact Fl
theorem Co{G:Prop}(h:G:=by
 obtain⟨A,c,e,-⟩:=aZ.fl;exact⟨_,_,_,e⟩):G:=h
theorem Cu{G:Prop}(h:G:=by
 obtain⟨cs,a1,-,-⟩:=ai base e;obtain⟨⟨zs,a2⟩,-⟩:=cJ;exact gC (a2.type a1)):G:=h
theorem Im{G:Prop}(h:G:=by
 rw[World.frozen?_of_block (aW.block base (by obtain⟨⟨zs,a2⟩,-⟩:=cJ;exact a2.lt) (λe=>bW e.symm))];exact(cJ.cell dU).2):G:=h
theorem Iy{G:Prop}(h:G:=by
 rintro e w5 ⟨ao,ce,A5,k5,c5,dX,B5,m5,d5,rfl,ar⟩;exact hK.out _ _ ⟨_,rfl,(by simp only[Zi3];exact⟨_,_,_,_,_,_,_,_,rfl,ar⟩),ao,trivial⟩):G:=h
theorem FT{G:Prop}(h:G:=by
 rintro e w5 ⟨v5,rfl,ao,jp⟩;exact hK.out _ _ ⟨_,rfl,(by simp only[Zi3];exact jp),ao,trivial⟩):G:=h
theorem CE{G:Prop}(h:G:=by
 intro ν wx hb hP;refine Zn (i:=9) rfl (λK hK=>?_);go_simp;refine(Zk6 gR i wx).mono ?_;exact FT):G:=h
theorem Ztt(A B C:Option Addr)(n c d e0 m:Nat)(rs:List RI)(rr ws:List Int)(w:World)(h:MIL w A n c rs)(hr:LimI w B n d rr)(hw:LimI w C n e0 ws)(hn0:0<n)(hn9:n<=900)(hm0:0<m)(hm9:m<=900)(a3:∀ r ∈ rs,r.n=m) :
    Calls Tryz.prog 55 #[.slice A n c,.slice B n d,.slice C n e0] w λe w'=>∃ go rs',e=.returned (.slice (some ⟨go,0,none⟩) m m)/\Below w.heap.size w w'/\rs'.length=m/\∃ base,w.heap.size<=base/\MatA 35 41 w' base go rs' (Zo9 rs rr ws n m):=by
 have hmx:=Gt;have gC:(35:TypeId)≠41:=Gj;obtain⟨iF,hi,e5,f9,f5⟩:=info_parts Ze1;obtain⟨iS,ki,h0,g5,h6⟩:=info_parts Ziq;obtain⟨V0,g8,a7,⟨p0,p1⟩,sV⟩:=Zda w 22 #[.slice A n c] 23 #[.slice B n d];obtain⟨gR,d4⟩:=Gz w.heap.size;rw[d4]at p0 p1;obtain⟨gT,d9⟩:=Gz (gR+1);rw[d9]at p1;obtain⟨base,a8⟩:=Gz V0.heap.size;obtain⟨W0,c4⟩:=Gz (V0.alloc (.cells (Z7 (Qa m Za8)) 35));have I:Below base V0 W0:=by rw[<- c4,<- a8];exact(Qh _ _).alloc (Qk _) _
 have q0:Blk W0 base 35 (Z7 (Qa m Za8)):=by rw[<- c4,<- a8];exact Blk.new _ _ _
 have e7:w.heap.size<=base:=by rw[<- a8];exact a7.size
 have c1:base<=W0.heap.size:=by rw[<- c4];simp[a8]
 have f8:Below V0.heap.size V0 W0:=by rw[a8];exact I
 have b5:∀ wx,Below base W0 wx->Below V0.heap.size V0 wx:=λwx hb=>by rw[a8];exact I.trans hb
 have e4:Hid (∀ wx,Below base W0 wx->MIL wx A n c rs):=Zd (λwx hb=>(h.below a7).below (b5 wx hb));have e6:Hid (∀ wx,Below base W0 wx->LimI wx B n d rr):=Zd (λwx hb=>(hr.below a7).below (b5 wx hb));have f0:Hid (∀ wx,Below base W0 wx->LimI wx C n e0 ws):=Zd (λwx hb=>(hw.below a7).below (b5 wx hb));have cR:Hid (∀ wx,Below base W0 wx->wx.cell? ⟨gR,0,none⟩=some (.slice A n c)):=Zd (λwx hb=>Zc (b5 wx hb) (p0.cell 0));have cT:Hid (∀ wx,Below base W0 wx->wx.cell? ⟨gT,0,none⟩=some (.slice B n d)):=Zd (λwx hb=>Zc (b5 wx hb) (p1.cell 0))
 have e9:Hid (MatA 35 41 W0 base base (Qa m Za8) (Zd3 (Zf3 rs rr ws n m) m 0 0)):=Zd (by
  rw[Zvi];refine⟨⟨[],by rw[List.append_nil];exact q0⟩,Qk _,by simp,λi r hr=>?_,λi j r s k hr hs hij h1=>?_⟩
  ·rw[Qd]at hr
   split at hr
   ·rename_i hi
    cases hr;rw[Qd,Gx hi];exact OwnF.nil _ _ _
   cases hr
  rw[Qd]at hr
  split at hr
  cases hr;cases h1;cases hr)
 obtain⟨g0,o0,r0,e8,a0,f3,-⟩:=(h.below a7).at_ (i:=0) hn0;rw[e8]at p0;have e3:=a3 r0 (Ql a0);rw[Nat.add_zero,e3]at f3;have g9:V0.cell? ⟨gR,0,none⟩=some (.slice (some ⟨g0,o0,none⟩) n c):=p0.cell 0;have g7:=Zqt (P:=Tryz.prog) 25 35 Tryz.underlying25 ki h0 g5 h6 (m:Int) m rfl Gk V0;subst e8;replace a3:=Zd a3;replace g1:=Zd (Gs a7 f8);replace hr:=Zd hr;clear p0 p1 q0 I h hw a0 f8 b5;have g2:gT+1=base:=Gk;subst g8;go_in;go_wp2_with fail;replace d4:=Zd d4;replace d9:=Zd d9;replace g2:=Zd g2;clear g9 f3 g7 a8 c4 sV a7
 go_loopg [21] m (λk iv wr=>∃ (i:Nat) (c3:List RS),i+k=m/\iv=.int .i64 i/\Hid (c3.length=m)/\MatA 35 41 wr base base c3 (Zd3 (Zf3 rs rr ws n m) m i 0)/\Below base W0 wr)
 case atStart=>exact⟨0,Qa m Za8,by omega,rfl,Zd Gh,e9.out,Qh _ _⟩
 case round =>
  clear e9;obtain⟨i,c3,h8,rfl,b1,hM,T⟩:=hrel;cases gk with
  | zero =>
   obtain rfl:i=m:=Gk;have t2:decide ((i:Int)<(i:Int))=false:=Gh;have g6:=g1.out.trans (T.mono e7);rw[Zyf]at hM;replace hM:=Zd hM;go_wp2_with fail;go_ret;exact⟨base,c3,rfl,g6,b1.out,base,e7,hM.out⟩
  | succ k' =>
   obtain rfl:k'=m-(i+1):=Gk;have b4:i<m:=Gk;have t2:decide ((i:Int)<(m:Int))=true:=Gv Gk;have bi:(i:Int)<(m:Int):=Gk;replace hM:=Zd hM;replace T:=Zd T;go_wp2_with fail
   go_loopg [26] m (λk kv wx=>∃ (t:Nat) (b6:List RS),t+k=m/\kv=.int .i64 t/\Hid (b6.length=m)/\MatA 35 41 wx base base b6 (Zd3 (Zf3 rs rr ws n m) m i t)/\Below base W0 wx)
   case atStart=>exact⟨0,c3,by omega,rfl,b1,hM.out,T.out⟩
   case round =>
    clear hM T b1;obtain⟨t,b6,h7,rfl,b1,hM,T⟩:=hrel
    have c8:((Zd3 (Zf3 rs rr ws n m) m i t)[i]?.getD []).length+1<=1000:=by
     rw[Zpe b4,Gw (Qt _),Gx rfl,Qv,Zk4];omega
    have f:base<=wr.heap.size:=Qf c1 T.size;obtain⟨r,dU⟩:=Zb5 (L:=b6) (i:=i) (by rw[b1.out];exact b4);obtain⟨cr,zr⟩:=hM.cell dU;replace hM:=Zd hM;replace c8:=Zd c8;cases gk with
    | zero =>
     obtain rfl:m=t:=Gk;have t3:decide ((m:Int)<(m:Int))=false:=Gh;go_wp2_with fail;obtain⟨X0,b2⟩:=Gz wr.drew;have y:Below wr.heap.size wr X0:=by rw[<- b2];exact Zh (Qh _ _) 1
     have u:Hid (∀ wx,Below wr.heap.size wr wx->wx.cell? ⟨base,i,none⟩=some (.slice r.A r.n r.c)):=Zd (λwx O=>Zc O cr);refine wp_heldS [15] hmx u (by rw[b2];exact y) (λhxs=>?_);rw[b2];refine Zkb 10 [0,1,2,3,4,5,6,7,8,10] rfl Gi (u.out _ y) ?_
     iterate 10 (refine tkA ?_;try simp only[Qc,Zg9,Zgn,Zg3,Gr,Gq,Gp])
     refine tk0 ?_;refine Za5 [(9,56),(11,58)] (λ_=>[]) [(9,56),(11,58)] (Zi3 9 99 11 gR i 0 ((Zc3 ws (Zcg rs i) (Zju rr) n:Int):Rat)) 4 Gi (λ_ _ _ _ _ hb h=>Znk hb h) (λwx h=>u.out _ (Gs y h)) ?hop ?hfin
     case hop =>
      intro p hp;simp only[List.mem_cons,QG,or_false]at hp;simp only[Qi,Qn,Zaj,Qc,Zg9,Zgn,Zg3];rcases hp with rfl|rfl;exact CE;intro ν wx hb hP;have O:=T.trans ((Gs y hb).mono f);have V:=e4.out wx O;have d3:=f0.out wx O;have c7:=cR.out wx O;have f4:=cT.out wx O;have f6:=e6.out wx O;have h3:=hP (9,56) Gh Gi;simp only[Zi3]at h3;obtain⟨g3,hν3,c9⟩:=h3;rw[hν3];refine Zn (i:=11) rfl (λK hK=>?_);go_simp;refine(Zwy 92 93 #[.pointer (some ⟨gR,0,none⟩),.pointer (some ⟨g3,0,none⟩)] #[.pointer (some ⟨gT,0,none⟩)] C n e0 ws (Zcg rs i) (Zju rr) wx d3 hn9 (λj _=>V.i64 _ _) (λj _=>Zkt hr.out.2.2.2.1 j) (λx W=>Zll _ _ _ W) (λx W=>Zvv _ _ W) (λW j I hj=>Zjt _ n c m rs gR g3 i j W (V.below I) (Zc I c7) (Zc I (c9.cell 0)) hj b4 a3.out hm9 hn9) (λW j I hj=>side_ok B n d rr gT j W (f6.below I) (Zc I f4) hj hn9)).mono ?_;exact Iy
     case hfin =>
      intro ν X00 hb00 hP;have h3:=hP (9,56) Gh;have h5:=hP (11,58) Gh;simp only[Zi3]at h3 h5;obtain⟨g3,h3,-⟩:=h3
      skip
      obtain⟨n6,A6,k6,c6,m6,B6,j6,d6,h5,c2⟩:=h5;simp only[Qi,Qn,Zaj,Qc,Zg9,Zgn,Zg3];rw[h3,h5];clear h3 h5 hP ν;have a0:Below wr.heap.size wr X00:=Gs y hb00;obtain⟨Y1,a4⟩:=Gz (X00.alloc (.cells #[.bool n6,.slice A6 k6 c6,.bool m6,.slice B6 j6 d6] 41));obtain⟨ga,b0⟩:=Gz X00.heap.size;have b3:Below X00.heap.size X00 Y1:=by rw[<- a4];exact(Qh _ _).alloc (Qk _) _
      have c0:Blk Y1 ga 41 #[.bool n6,.slice A6 k6 c6,.bool m6,.slice B6 j6 d6]:=by rw[<- a4,<- b0];exact Blk.new _ _ _
      have J:Below wr.heap.size wr Y1:=Gs a0 b3;refine wpAnyL_o 12 λK hK=>?_;go_simp;(try rw[a4]);(try rw[b0]);refine hK.out _ _ (λ_=>u.out _ J) ?_;clear hK K a4 b0
      try simp only[Qc,Zg9,Zgn,Zg3]
      have cJ:=(hM.out).below J;have b7:=c2.below b3;have d8:base<=Y1.heap.size:=Qf f J.size;have a9:=cJ.2.2.2.1 i r dU;refine wpAnyL_o 13 λK hK=>?_;rw[Gx Ge];refine Zbi _ (.tmp 52) (.tmp 59) 35 rfl base 41 iF Tryz.underlying35 hi e5 f9 f5 (r).val _ rfl a9 _ (some ⟨ga,0,none⟩) 1 1 [⟨n6,A6,k6,c6,m6,B6,j6,d6,((Zc3 ws (Zcg rs i) (Zju rr) n:Int):Rat)⟩] rfl (Zcn _ c0) rfl (by intro e he;rw[QD]at he;subst he;exact b7) c8.out d8 ?_;intro v2 Y2 aZ aW b9 b8
      obtain⟨nA,nn,nc,rfl⟩:∃ A n c,v2=.slice A n c:=by
       exact Co
      have ai:=a9.ownBlk
      have U:∀ (g o:Nat) (v:Value),(r).val.ownBlock≠some g->Y1.cell? ⟨g,o,none⟩=some v->Y2.cell? ⟨g,o,none⟩=some v:=λg o v hgg hv=>by
       rw[<- hv];exact Qr (aW.block g (Zp hv) (λe=>hgg e.symm))
      have a6:=Zd (cJ.app gC (i:=i) (r':=⟨nA,nn,nc⟩) dU aW aZ b9 b8);rw[Qi,Qn,show (FE.q ⟨n6,A6,k6,c6,m6,B6,j6,d6,((Zc3 ws (Zcg rs i) (Zju rr) n:Int):Rat)⟩)=((Zc3 ws (Zcg rs i) (Zju rr) n:Int):Rat) from rfl,Zo2 b4 (Zyp)]at a6
      have bW:r.val.ownBlock≠some base:=λe=>by
       exact Cu
      have a5:Y2.cell? ⟨base,i,none⟩=some (.slice r.A r.n r.c):=U _ _ _ bW (u.out _ J);have e2:Hid (Below base W0 (Y2.setCell ⟨base,i,none⟩ (RS.val ⟨nA,nn,nc⟩))):=Zd (((T.trans (J.mono f)).grown aW (Qf c1 (T.trans (J.mono f)).size) (λk hk=>(ai k hk).choose_spec.2.2)).setCell a6.out.2.1 _)
      have d7:Y2.frozen? ⟨base,i,none⟩=false:=by
       exact Im
      refine hK.out _ _ (λ_=>a5) ?_;clear hK K
      try simp only[Qc,Zg9,Zgn,Zg3]
      refine Zgo 1 [14] rfl Gi a5 ?_
      (refine tkA ?_;try simp only[Qc,Zg9,Zgn,Zg3,Gr,Gq,Gp])
      refine tk0 ?_;have d0:=a5;have e1:Hid ((b6.set i ⟨nA,nn,nc⟩).length=m):=Zd (by rw[QH];exact b1.out);clear a5 aZ ai a9 cJ b7 c0 b3 J U bW;refine Zy (i:=15) rfl Gi Gi (λK hK=>?_);go_simp;refine hK.out _ _ ?_;clear hK K
      try simp only[Qc,Zg9,Zgn,Zg3]
      refine wpAnyL_fin ?_;clear d0 d7 hxs u y a0 hb00 c2 cr zr aW b9 b8;go_wp2_with fail;rw[Zt5 (by rw[Zk4];exact Qk _)]at a6
      go_roundg (m-(i+1))
      case measure=>omega
      case rel=>exact⟨i+1,_,by omega,by go_num,e1,a6.out,e2.out⟩
    | succ k2 =>
     obtain rfl:k2=m-(t+1):=Gk;have f7:t<m:=Gk;have t3:decide ((t:Int)<(m:Int))=true:=Gv Gk;go_wp2_with fail;obtain⟨X0,b2⟩:=Gz wr.drew;have y:Below wr.heap.size wr X0:=by rw[<- b2];exact Zh (Qh _ _) 1
     have u:Hid (∀ wx,Below wr.heap.size wr wx->wx.cell? ⟨base,i,none⟩=some (.slice r.A r.n r.c)):=Zd (λwx O=>Zc O cr);refine wp_heldS [17] hmx u (by rw[b2];exact y) (λhxs=>?_);rw[b2];refine Zkb 11 [0,1,2,3,4,5,6,7,8,10,11] rfl Gi (u.out _ y) ?_
     iterate 11 (refine tkA ?_;try simp only[Qc,Zg9,Zgn,Zg3,Gr,Gq,Gp])
     refine tk0 ?_;refine Za5 [(9,38),(12,41),(13,42)] (λ_=>[]) [(9,38),(12,41),(13,42)] (Zi3 9 12 13 gR i t ((Zc3 ws (Zcg rs i) (Zcg rs t) n:Int):Rat)) 4 Gi (λ_ _ _ _ _ hb h=>Znk hb h) (λwx h=>u.out _ (Gs y h)) ?hop ?hfin
     case hop =>
      intro p hp;simp only[List.mem_cons,QG,or_false]at hp;simp only[Qi,Qn,Zaj,Qc,Zg9,Zgn,Zg3];rcases hp with rfl|rfl|rfl;exact CE
      ·intro ν wx hb hP
       refine Zn (i:=12) rfl (λK hK=>?_);go_simp;refine(Zk6 gR t wx).mono ?_;exact FT
      intro ν wx hb hP;have O:=T.trans ((Gs y hb).mono f);have V:=e4.out wx O;have d3:=f0.out wx O;have c7:=cR.out wx O;have f4:=cT.out wx O;have f6:=e6.out wx O;have h3:=hP (9,38) Gh Gi;simp only[Zi3]at h3;obtain⟨g3,hν3,c9⟩:=h3;rw[hν3];have h4:=hP (12,41) Gh Gi;simp only[Zi3]at h4;obtain⟨g4,hν4,h2⟩:=h4;rw[hν4];refine Zn (i:=13) rfl (λK hK=>?_);go_simp;refine(Zwy 92 92 #[.pointer (some ⟨gR,0,none⟩),.pointer (some ⟨g3,0,none⟩)] #[.pointer (some ⟨gR,0,none⟩),.pointer (some ⟨g4,0,none⟩)] C n e0 ws (Zcg rs i) (Zcg rs t) wx d3 hn9 (λj _=>V.i64 _ _) (λj _=>V.i64 _ _) (λx W=>Zll _ _ _ W) (λx W=>Zll _ _ _ W) (λW j I hj=>Zjt _ n c m rs gR g3 i j W (V.below I) (Zc I c7) (Zc I (c9.cell 0)) hj b4 a3.out hm9 hn9) (λW j I hj=>Zjt _ n c m rs gR g4 t j W (V.below I) (Zc I c7) (Zc I (h2.cell 0)) hj f7 a3.out hm9 hn9)).mono ?_;exact Iy
     case hfin =>
      intro ν X00 hb00 hP;have h3:=hP (9,38) Gh;have h5:=hP (13,42) Gh;have h4:=hP (12,41) Gh;simp only[Zi3]at h3 h5 h4;obtain⟨g3,h3,-⟩:=h3;obtain⟨g4,h4,-⟩:=h4;obtain⟨n6,A6,k6,c6,m6,B6,j6,d6,h5,c2⟩:=h5;simp only[Qi,Qn,Zaj,Qc,Zg9,Zgn,Zg3];rw[h3,h4,h5];clear h3 h4 h5 hP ν;have a0:Below wr.heap.size wr X00:=Gs y hb00;obtain⟨Y1,a4⟩:=Gz (X00.alloc (.cells #[.bool n6,.slice A6 k6 c6,.bool m6,.slice B6 j6 d6] 41));obtain⟨ga,b0⟩:=Gz X00.heap.size;have b3:Below X00.heap.size X00 Y1:=by rw[<- a4];exact(Qh _ _).alloc (Qk _) _
      have c0:Blk Y1 ga 41 #[.bool n6,.slice A6 k6 c6,.bool m6,.slice B6 j6 d6]:=by rw[<- a4,<- b0];exact Blk.new _ _ _
      have J:Below wr.heap.size wr Y1:=Gs a0 b3;refine wpAnyL_o 14 λK hK=>?_;go_simp;(try rw[a4]);(try rw[b0]);refine hK.out _ _ (λ_=>u.out _ J) ?_;clear hK K a4 b0
      try simp only[Qc,Zg9,Zgn,Zg3]
      have cJ:=(hM.out).below J;have b7:=c2.below b3;have d8:base<=Y1.heap.size:=Qf f J.size;have a9:=cJ.2.2.2.1 i r dU;refine wpAnyL_o 15 λK hK=>?_;rw[Gx Ge];refine Zbi _ (.tmp 34) (.tmp 43) 35 rfl base 41 iF Tryz.underlying35 hi e5 f9 f5 (r).val _ rfl a9 _ (some ⟨ga,0,none⟩) 1 1 [⟨n6,A6,k6,c6,m6,B6,j6,d6,((Zc3 ws (Zcg rs i) (Zcg rs t) n:Int):Rat)⟩] rfl (Zcn _ c0) rfl (by intro e he;rw[QD]at he;subst he;exact b7) c8.out d8 ?_;intro v2 Y2 aZ aW b9 b8
      obtain⟨nA,nn,nc,rfl⟩:∃ A n c,v2=.slice A n c:=by
       exact Co
      have ai:=a9.ownBlk
      have U:∀ (g o:Nat) (v:Value),(r).val.ownBlock≠some g->Y1.cell? ⟨g,o,none⟩=some v->Y2.cell? ⟨g,o,none⟩=some v:=λg o v hgg hv=>by
       rw[<- hv];exact Qr (aW.block g (Zp hv) (λe=>hgg e.symm))
      have a6:=Zd (cJ.app gC (i:=i) (r':=⟨nA,nn,nc⟩) dU aW aZ b9 b8);rw[Qi,Qn,show (FE.q ⟨n6,A6,k6,c6,m6,B6,j6,d6,((Zc3 ws (Zcg rs i) (Zcg rs t) n:Int):Rat)⟩)=((Zc3 ws (Zcg rs i) (Zcg rs t) n:Int):Rat) from rfl,Zo2 b4 (Z1q f7)]at a6
      have bW:r.val.ownBlock≠some base:=λe=>by
       exact Cu
      have a5:Y2.cell? ⟨base,i,none⟩=some (.slice r.A r.n r.c):=U _ _ _ bW (u.out _ J);have e2:Hid (Below base W0 (Y2.setCell ⟨base,i,none⟩ (RS.val ⟨nA,nn,nc⟩))):=Zd (((T.trans (J.mono f)).grown aW (Qf c1 (T.trans (J.mono f)).size) (λk hk=>(ai k hk).choose_spec.2.2)).setCell a6.out.2.1 _)
      have d7:Y2.frozen? ⟨base,i,none⟩=false:=by
       exact Im
      refine hK.out _ _ (λ_=>a5) ?_;clear hK K
      try simp only[Qc,Zg9,Zgn,Zg3]
      refine Zgo 1 [16] rfl Gi a5 ?_
      (refine tkA ?_;try simp only[Qc,Zg9,Zgn,Zg3,Gr,Gq,Gp])
      refine tk0 ?_;have d0:=a5;have e1:Hid ((b6.set i ⟨nA,nn,nc⟩).length=m):=Zd (by rw[QH];exact b1.out);clear a5 aZ ai a9 cJ b7 c0 b3 J U bW;refine Zy (i:=17) rfl Gi Gi (λK hK=>?_);go_simp;refine hK.out _ _ ?_;clear hK K
      try simp only[Qc,Zg9,Zgn,Zg3]
      refine wpAnyL_fin ?_;clear d0 d7 hxs u y a0 hb00 c2 cr zr aW b9 b8;go_wp2_with fail
      go_roundg (m-(t+1))
      case measure=>omega
      case rel=>exact⟨t+1,_,by omega,by go_num,e1,a6.out,e2.out⟩
theorem Zee(na:Bool)(a:List Nat):Zgf na na a a=true:=by
 unfold Zgf
 have:Zcm a a=0:=by
  unfold Zcm;simp
 rw[this];simp
theorem Zmi(na nb:Bool)(A B A' B':Option Addr)(n c m d n' c' m' d':Nat)(la lb:List Nat)(w:World)(ha:Lim w A n c la)(hb:Lim w B m d lb)(u:Lim w A' n' c' la)(o:Lim w B' m' d' lb) :
    Calls Tryz.prog 21 #[.agg #[.bool na,.slice A n c,.bool nb,.slice B m d],.agg #[.bool na,.slice A' n' c',.bool nb,.slice B' m' d']] w λe w'=>e=.returned (.bool true)/\Below w.heap.size w w':=by
 obtain⟨W0,y,f,⟨q0,q1⟩,s0⟩:=Zda w 41 #[.bool na,.slice A n c,.bool nb,.slice B m d] 41 #[.bool na,.slice A' n' c',.bool nb,.slice B' m' d'];replace ha:=Zd (ha.below f);replace hb:=Zd (hb.below f);replace u:=Zd (u.below f);replace o:=Zd (o.below f);obtain⟨a0,a1,a2,a3,-⟩:=q0.four;obtain⟨b0,b1,b2,b3,-⟩:=q1.four;have hq:=Zd (And.intro q0 q1);clear q0 q1;go_in;go_wp2_with fail;refine(Zc8 na na A A' n c n' c' _ _ W0 ha.out u.out).mono ?_;rw[Zee];rintro e w1 ⟨rfl,h⟩;have ae:Below w.heap.size w w1:=Gs f h;obtain⟨q0,q1⟩:=hq.out;replace q0:=Ze h q0;replace q1:=Ze h q1;clear y a0 a1 a2 a3 b0 b1 b2 b3 hq f;obtain⟨a0,a1,a2,a3,-⟩:=q0.four;obtain⟨b0,b1,b2,b3,-⟩:=q1.four;clear q0 q1;go_wp2_with fail;refine(Zc8 nb nb B B' m d m' d' _ _ w1 (hb.out.below h) (o.out.below h)).mono ?_;rw[Zee];exact Ir
structure DF where
 na:Bool
 la:List Nat
 nb:Bool
 lb:List Nat
def XL(w:World)(A:Option Addr)(n c:Nat)(ds:List DF):Prop:=
 ds.length=n/\n<=c/\c<=maxLen/\∀ (k:Nat) (d:DF),ds[k]?=some d->∃ g o A1 n1 c1 B1 m1 d1,A=some ⟨g,o,none⟩/\At4 w g (o+k*4) d.na A1 n1 c1 d.nb B1 m1 d1/\Lim w A1 n1 c1 d.la/\Lim w B1 m1 d1 d.lb
def XM(w:World)(A:Option Addr)(n c:Nat)(D:List (List DF)):Prop:=
 D.length=n/\n<=c/\c<=maxLen/\∀ (k:Nat) (ds:List DF),D[k]?=some ds->∃ g o A1 n1 c1,A=some ⟨g,o,none⟩/\w.cell? ⟨g,o+k,none⟩=some (.slice A1 n1 c1)/\XL w A1 n1 c1 ds
section
variable{w w':World}{A:Option Addr}{n c:Nat}{ds:List DF}{D:List (List DF)}
theorem XL.below(h:XL w A n c ds)(hb:Below w.heap.size w w'):XL w' A n c ds:=by
 obtain⟨h1,h2,h3,h4⟩:=h;refine⟨h1,h2,h3,λk d hd=>?_⟩;obtain⟨g,o,A1,n1,c1,B1,m1,d1,e,a,b,b'⟩:=h4 k d hd;exact⟨g,o,A1,n1,c1,B1,m1,d1,e,a.below hb,b.below hb,b'.below hb⟩
theorem XM.below(h:XM w A n c D)(hb:Below w.heap.size w w'):XM w' A n c D:=by
 obtain⟨h1,h2,h3,h4⟩:=h;refine⟨h1,h2,h3,λk d hd=>?_⟩;obtain⟨g,o,A1,n1,c1,e,a,b⟩:=h4 k d hd;exact⟨g,o,A1,n1,c1,e,Zc hb a,b.below hb⟩
def dfQ(q:Rat):DF:=⟨decide (q.num<0),digits q.num.natAbs,false,digits q.den⟩
theorem FL.xl{qs:List Rat}(h:FL w A n c qs):XL w A n c (qs.map dfQ):=by
 have hl:=h.len;refine⟨by rw[Qj,hl],h.cap.1,h.cap.2,λk d hd=>?_⟩;rw[Qb]at hd;obtain⟨q,hq,rfl⟩:=Option.map_eq_some_iff.1 hd;have hk:k<n:=by have:=(List.getElem?_eq_some_iff.1 hq).1;omega
 obtain⟨g,o,na,A1,n1,c1,nb,B,m,d,e1,e2,e3⟩:=h.at_ hk;rw[hq,Qp]at e3;have h1:=e3.1.1;have h2:=e3.2.1;have h3:=e3.2.2.2;rw[Int.natAbs_natCast]at h3;have h4:nb=false:=by rw[h2];exact Gu Gk
 subst h1 h4;exact⟨g,o,_,_,_,_,_,_,e1,e2,e3.1.2.2,h3⟩
theorem MFL.xm{Q:List (List Rat)}(h:MFL w A n c Q):XM w A n c (Q.map λr=>r.map dfQ):=by
 refine⟨by rw[Qj,h.1],h.2.1,h.2.2.1,λk d hd=>?_⟩;rw[Qb]at hd;obtain⟨r,hr,rfl⟩:=Option.map_eq_some_iff.1 hd;have hk:k<n:=by have:=(List.getElem?_eq_some_iff.1 hr).1;rw[h.1]at this;exact this
 obtain⟨g,o,A1,n1,c1,e1,e3,e4⟩:=h.at_ hk;rw[hr,Qp]at e4;exact⟨g,o,_,_,_,e1,e3,e4.xl⟩
end
theorem Ib{G:Prop}(h:G:=by
 obtain rfl:i=n:=Gk;have t1:decide ((i:Int)<(i:Int))=false:=Gh;go_wp2_with fail;go_ret;exact⟨rfl,hB⟩):G:=h
theorem Zqn(A B:Option Addr)(n c d:Nat)(ds:List DF)(w:World)(ha:XL w A n c ds)(hb:XL w B n d ds) :
    Calls Tryz.prog 52 #[.slice A n c,.slice B n d] w λe w'=>e=.returned (.bool true)/\Below w.heap.size w w':=by
 have hmx:=Gt;have hl:=Zd ha.1;have hc:=ha.2.1;have a0:=ha.2.2.1;have hd:=hb.2.1;have a1:=hb.2.2.1;unfold maxLen at a0 a1;replace ha:=Zd ha;replace hb:=Zd hb;have t0:(((n:Int)) != (n:Int))=false:=Gh
 go_in;go_wp2_with fail
 go_loopg [5] n (λk iv wr=>∃ i:Nat,i+k=n/\iv=.int .i64 i/\Below w.heap.size w wr)
 case atStart=>exact⟨0,by omega,rfl,Qh _ _⟩
 case round =>
  obtain⟨i,a5,rfl,hB⟩:=hrel;cases gk with
  | zero =>
   exact Ib
  | succ k' =>
   obtain rfl:k'=n-(i+1):=Gk;have a2:i<n:=Gk;have t1:decide ((i:Int)<(n:Int))=true:=Gv Gk;have bi:(i:Int)<(n:Int):=Gk;obtain⟨x,hx⟩:=Zb5 (L:=ds) (i:=i) (by rw[hl.out];exact a2);obtain⟨g,o,A1,n1,c1,B1,m1,d1,rfl,⟨r0,r1,r2,r3⟩,l1,l2⟩:=(ha.out.below hB).2.2.2 i x hx;obtain⟨g',o',Y,V,T,U,O,J,rfl,⟨s0,s1,s2,s3⟩,y,I⟩:=(hb.out.below hB).2.2.2 i x hx;replace l1:=Zd l1;replace l2:=Zd l2;replace y:=Zd y;replace I:=Zd I;go_wp2_with fail;obtain⟨X0,u⟩:=Gz wr.drew;have h:Below wr.heap.size wr X0:=by rw[<- u];exact Zh (Qh _ _) 1
   have f:Hid (∀ wx,Below wr.heap.size wr wx->wx.cell? ⟨g,o+i*4,none⟩=some (.bool x.na)/\wx.cell? ⟨g,o+i*4+1,none⟩=some (.slice A1 n1 c1)/\wx.cell? ⟨g,o+i*4+2,none⟩=some (.bool x.nb)/\wx.cell? ⟨g,o+i*4+3,none⟩=some (.slice B1 m1 d1)/\wx.cell? ⟨g',o'+i*4,none⟩=some (.bool x.na)/\wx.cell? ⟨g',o'+i*4+1,none⟩=some (.slice Y V T)/\wx.cell? ⟨g',o'+i*4+2,none⟩=some (.bool x.nb)/\wx.cell? ⟨g',o'+i*4+3,none⟩=some (.slice U O J)):=Zd (λwx hbx=>⟨Zc hbx r0,Zc hbx r1,Zc hbx r2,Zc hbx r3,Zc hbx s0,Zc hbx s1,Zc hbx s2,Zc hbx s3⟩);refine wp_heldS [] hmx f (by rw[u];exact h) (λhxs=>?_);rw[u];refine Zkb 8 [0,1,2,3,4,5,6,7] rfl Gi (f.out _ h) ?_
   iterate 8 (refine tkA ?_;try simp only[Qc,Zg9,Zgn,Zg3,Gr,Gq,Gp])
   refine tk0 ?_;refine wpAnyL_o 8 λK hK=>?_;go_simp;refine(Zmi x.na x.nb A1 B1 Y U n1 c1 m1 d1 V T O J x.la x.lb X0 (l1.out.below h) (l2.out.below h) (y.out.below h) (I.out.below h)).mono ?_;rintro e w3 ⟨rfl,a3⟩;have C:=Gs h a3;have a4:=Gs hB C;refine hK.out _ _ (λ_=>f.out _ C) ?_;clear hK K
   try simp only[Qc,Zg9,Zgn,Zg3]
   refine Zgo 1 [9] rfl Gi (f.out _ C) ?_
   (refine tkA ?_;try simp only[Qc,Zg9,Zgn,Zg3,Gr,Gq,Gp])
   refine tk0 ?_;refine wpAnyL_fin ?_;clear hxs f;go_wp2_with fail
   go_roundg (n-(i+1))
   case measure=>omega
   case rel=>exact⟨i+1,by omega,by go_num,a4⟩
theorem Zw4(A B:Option Addr)(n c d:Nat)(D:List (List DF))(w:World)(ha:XM w A n c D)(hb:XM w B n d D) :
    Calls Tryz.prog 12 #[.slice A n c,.slice B n d] w λe w'=>e=.returned (.bool true)/\Below w.heap.size w w':=by
 have hmx:=Gt;have hl:=Zd ha.1;have hc:=ha.2.1;have T:=ha.2.2.1;have hd:=hb.2.1;have U:=hb.2.2.1;unfold maxLen at T U;replace ha:=Zd ha;replace hb:=Zd hb;have t0:(((n:Int)) != (n:Int))=false:=Gh
 go_in;go_wp2_with fail
 go_loopg [5] n (λk iv wr=>∃ i:Nat,i+k=n/\iv=.int .i64 i/\Below w.heap.size w wr)
 case atStart=>exact⟨0,by omega,rfl,Qh _ _⟩
 case round =>
  obtain⟨i,a1,rfl,hB⟩:=hrel;cases gk with
  | zero =>
   exact Ib
  | succ k' =>
   obtain rfl:k'=n-(i+1):=Gk;have V:i<n:=Gk;have t1:decide ((i:Int)<(n:Int))=true:=Gv Gk;have bi:(i:Int)<(n:Int):=Gk;obtain⟨x,hx⟩:=Zb5 (L:=D) (i:=i) (by rw[hl.out];exact V);obtain⟨g,o,A1,n1,c1,rfl,r0,l1⟩:=(ha.out.below hB).2.2.2 i x hx;obtain⟨g',o',O,y,J,rfl,s0,u⟩:=(hb.out.below hB).2.2.2 i x hx;obtain rfl:y=n1:=by rw[<- l1.1,<- u.1]
   replace l1:=Zd l1;replace u:=Zd u;go_wp2_with fail;obtain⟨X0,C⟩:=Gz wr.drew;have h:Below wr.heap.size wr X0:=by rw[<- C];exact Zh (Qh _ _) 1
   have f:Hid (∀ wx,Below wr.heap.size wr wx->wx.cell? ⟨g,o+i,none⟩=some (.slice A1 y c1)/\wx.cell? ⟨g',o'+i,none⟩=some (.slice O y J)):=Zd (λwx hbx=>⟨Zc hbx r0,Zc hbx s0⟩);refine wp_heldS [] hmx f (by rw[C];exact h) (λhxs=>?_);rw[C];refine Zkb 8 [0,1,2,3,4,5,6,7] rfl Gi (f.out _ h) ?_
   iterate 8 (refine tkA ?_;try simp only[Qc,Zg9,Zgn,Zg3,Gr,Gq,Gp])
   refine tk0 ?_;refine wpAnyL_o 8 λK hK=>?_;go_simp;refine(Zqn A1 O y c1 J x X0 (l1.out.below h) (u.out.below h)).mono ?_;rintro e w3 ⟨rfl,Y⟩;have I:=Gs h Y;have a0:=Gs hB I;refine hK.out _ _ (λ_=>f.out _ I) ?_;clear hK K
   try simp only[Qc,Zg9,Zgn,Zg3]
   refine Zgo 1 [9] rfl Gi (f.out _ I) ?_
   (refine tkA ?_;try simp only[Qc,Zg9,Zgn,Zg3,Gr,Gq,Gp])
   refine tk0 ?_;refine wpAnyL_fin ?_;clear hxs f;go_wp2_with fail
   go_roundg (n-(i+1))
   case measure=>omega
   case rel=>exact⟨i+1,by omega,by go_num,a0⟩
theorem Zi2{rs:List RI}{rr ws:List Int}(h:Zd8 rs rr ws=0):rs.length<=200/\(∀ r ∈ rs,r.n<=12)/\n0I rs≠0/\ws.length=rs.length/\rr.length=rs.length/\Zit 1 ws=false/\Zit (-1099511627776) rr=false/\∀ r ∈ rs,r.n=n0I rs/\Zit (-1099511627776) r.l=false:=by
 unfold Zd8 at h
 split at h
 cases h;rename_i h1
 split at h
 ·rename_i h2
  simp only[Zlx,Bool.or_eq_true,decide_eq_true_eq,not_or,List.any_eq_true,not_exists,RI.long,not_and]at h1;simp only[sysB,Bool.and_eq_true,Bool.not_eq_true',decide_eq_false_iff_not,decide_eq_true_eq,List.all_eq_true,Zq6]at h2;obtain⟨a1,a2,a3,a4,a5,a6⟩:=h2;exact⟨by omega,λr hr=>by have:=h1.2 r hr;omega,a1,a2,a3,a4,a5,a6⟩
 cases h
theorem Zv6{P:Program}(t e:TypeId){i:TypeInfo}(ht:P.underlying t=some (.slice e))(hi:P.info? e=some i)(hz:i.zero=some (.int .i64 0))(hs:i.size=1)(hb:i.bytes=8)
    (x:Int) (n:Nat) (hx:x=n) (hn:n<=1000000000000) (W:World) :
    (Instr.makeSlice t (.int .i64 x) (.int .i64 x)).run P W=.ok (.slice (some ⟨W.heap.size,0,none⟩) n n) (W.alloc (.cells (madeCells #[.int .i64 0] n) e)):=by
 subst hx;have hr:=run_make (P:=P) W t e i _ ht hi hz .i64 .i64 n n Gk Gk (by rw[hb];omega) Gk;simp only[Int.toNat_natCast]at hr;rw[hr,hs,Nat.mul_one];rfl
theorem LimI.zeros{w:World}{g:Nat}{t:TypeId}{n:Nat}(h:Blk w g t (madeCells #[.int .i64 0] n))(hn:n<=maxLen):LimI w (some ⟨g,0,none⟩) n n (Qa n 0):=by
 refine⟨by simp,Qk _,hn,λx hx=>?_,λ_=>⟨g,0,rfl,λk hk=>?_⟩⟩;rw[List.eq_of_mem_replicate hx];unfold I64;decide;rw[QA,h.cell,Qd,Gx hk];unfold madeCells;simp[hk,Nat.mod_one]
theorem Zwa:(Tryz.prog.info? 2).map (λi=>(i.zero,i.size,i.bytes))=some (some (.int .i64 0),1,8):=by kernel_rfl
def RS.cut(r:RS):RS:=⟨r.A,r.n-1,r.c⟩
def Zis(rs:List RS)(i:Nat):List RS:=(rs.take i).map RS.cut++rs.drop i
theorem Zxk(rs:List RS):Zis rs 0=rs:=by simp[Zis]
theorem Z1j(rs:List RS):Zis rs rs.length=rs.map RS.cut:=by simp[Zis]
theorem Zrn(rs:List RS)(i:Nat):(Zis rs i).length=rs.length:=by simp[Zis];omega
theorem Z1b{rs:List RS}{i:Nat}{r:RS}(h:rs[i]?=some r)(zs:List RS):(Zis rs i++zs)[i]?=some r:=by
 have hi:=(List.getElem?_eq_some_iff.1 h).1;rw[Qg (by rw[Zrn];exact hi)];unfold Zis;rw[Qu Gg];simp only[Qj,Qv,QI (Nat.le_of_lt hi),QB,List.getElem?_drop,Nat.add_zero];exact h
theorem Zzi{rs:List RS}{i:Nat}{r:RS}(h:rs[i]?=some r)(zs:List RS):(Zis rs i++zs).set i r.cut=Zis rs (i+1)++zs:=by
 have hi:=(List.getElem?_eq_some_iff.1 h).1;have hr:rs[i]=r:=(List.getElem?_eq_some_iff.1 h).2;rw[List.set_append_left _ _ (by rw[Zrn];exact hi)];congr 1;unfold Zis;rw[Qy _ _ Gg];simp only[Qj,Qv,QI (Nat.le_of_lt hi),QB];rw[List.drop_eq_getElem_cons hi,QC,QF,Qm hi,hr];simp
theorem FL.keptS{w w':World}{A:Option Addr}{n c:Nat}{qs:List Rat}{go:Nat}{tS:TypeId}{rs:List RS}(h:FL w A n c qs)(hk:Kept (λg=>g=go) w w')(hb:Blk w go tS (Z7 rs)):FL w' A n c qs:=by
 have hG:∀ k,(λg=>g=go) k->∃ t cs,Blk w k t cs/\NoLimb cs:=λk e=>by
  cases e;exact⟨_,_,hb,Zbe rs⟩
 obtain⟨es,h1,h2,h3,h4,h5,h6⟩:=h;refine⟨es,h1,h2,h3,λe he=>⟨hk.wd (h4 e he).1 hG,hk.wd (h4 e he).2 hG⟩,h5,λhn=>?_⟩;obtain⟨g,o,e1,hc⟩:=h6 hn;refine⟨g,o,e1,λk e he=>?_⟩;obtain⟨a,b,c',d⟩:=hc k e he
 have u:g≠go:=λe'=>by
  subst e';rw[hb.cell]at a;unfold Z7 at a;simp only[List.getElem?_toArray,Zcp,Qb,Qx]at a;obtain⟨r,-,hr⟩:=a;cases hr
 have f:∀ (j:Nat) (v:Value),w.cell? ⟨g,j,none⟩=some v->w'.cell? ⟨g,j,none⟩=some v:=λj v hv=>by
  rw[<- hv];exact Qr (hk.block g (Zp hv) u)
 exact⟨f _ _ a,f _ _ b,f _ _ c',f _ _ d⟩
theorem Zr7(A C:Option Addr)(n c k e0:Nat)(rs:List RI)(ws:List Int)(w:World)(h:MIL w A n c rs)(hw:LimI w C k e0 ws)(E:Int)(hE:Zd8 rs (List.replicate (min n 200) 0) ws=E)(h0:E≠0) :
    Calls Tryz.prog 15 #[.slice A n c,.slice C k e0] w λe w'=>e=.returned (.tuple #[.slice none 0 0,.int .i64 E])/\Below w.heap.size w w':=by
 obtain⟨iI,ji,y,I,u⟩:=info_parts Zwa;have hn:=Qf h.2.1 h.2.2.1;unfold maxLen at hn;have o:min (n:Int) 200=((min n 200:Nat):Int):=Gk;have hk:min n 200<=200:=Gk;obtain⟨q,hq⟩:=Gz (min n 200);rw[hq]at o hk hE;have t1:decide (E≠0)=true:=Gv h0;have U:(E != 0)=true:=by simpa using h0
 have T:(E == 0)=false:=by simpa using h0
 have V:=Zv6 (P:=Tryz.prog) 23 2 Tryz.underlying23 ji y I u (q:Int) q rfl Gk w;obtain⟨W0,J,f,q0,s0⟩:=Zao w 2 (madeCells #[.int .i64 0] q);have hC:=Zd (Zlu A (some ⟨w.heap.size,0,none⟩) C n c q q k e0 rs (Qa q 0) ws W0 (h.below f) (LimI.zeros q0 (by unfold maxLen;omega)) (hw.below f) E hE);clear q0 h hw hE hq;replace h0:=Zd h0;go_in;go_wp2_with fail;(try rw[J]);refine hC.out.mono ?_;rintro e w1 ⟨rfl,O⟩;go_wp2_with fail;go_returns;exact⟨rfl,Gs f O⟩
def Zdc(rs:List RI)(ws:List Int)(n m:Nat):List (List Rat):=(Qo m).map λi=>(Qo m).map λk=>((Zc3 ws (Zcg rs i) (Zcg rs k) n:Int):Rat)
theorem Zya(rs:List RI)(rr ws:List Int)(n m:Nat):(Zo9 rs rr ws n m).map (λq=>q.take m)=Zdc rs ws n m:=by
 unfold Zo9 Zdc;rw[List.map_map];refine Qs λi _=>?_;show (Zf3 rs rr ws n m i).take m=_;unfold Zf3;rw[List.take_append_of_le_length Gh,Qw Gh]
theorem Zvm(A C:Option Addr)(n c e0 m:Nat)(rs:List RI)(ws:List Int)(w:World)(h:MIL w A n c rs)(hw:LimI w C n e0 ws)(hE:Zd8 rs (List.replicate n 0) ws=0)(hm:n0I rs=m) :
    Calls Tryz.prog 15 #[.slice A n c,.slice C n e0] w λe w'=>∃ go,e=.returned (.tuple #[.slice (some ⟨go,0,none⟩) m m,.int .i64 0])/\Below w.heap.size w w'/\MFL w' (some ⟨go,0,none⟩) m m (Zdc rs ws n m):=by
 obtain⟨iI,ji,c1,c3,b4⟩:=info_parts Zwa;obtain⟨f1,f2,f3,f4,f5,f6,f7,f8⟩:=Zi2 hE;have hl:=h.1;rw[hl]at f1;rw[hm]at f3
 have b3:0<n:=by
  rcases Nat.eq_zero_or_pos n with h0|h0
  ·exfalso
   have:rs=[]:=List.eq_nil_of_length_eq_zero Gk;subst this;exact f3 (by rw[<- hm];rfl)
  exact h0
 have y:∀ r ∈ rs,r.n=m:=λr hr=>by rw[(f8 r hr).1,hm]
 have c4:m<=12:=by
  obtain⟨_,_,r0,_,b7,_⟩:=h.at_ (i:=0) b3;have h1:=Ql b7;rw[<- y r0 h1];exact f2 r0 h1
 have b9:0<m:=Gk;have c5:min (n:Int) 200=(n:Int):=Gk;have c2:=Zv6 (P:=Tryz.prog) 23 2 Tryz.underlying23 ji c1 c3 b4 (n:Int) n rfl Gk w;obtain⟨W0,b5,o,q0,s0⟩:=Zao w 2 (madeCells #[.int .i64 0] n);have hZ:=Zd (LimI.zeros q0 (by unfold maxLen;omega));have hM:=Zd (h.below o);have a0:=Zd (hw.below o);clear q0 h hw f2 f3 f4 f5 f6 f7 f8;replace hE:=Zd hE;replace hm:=Zd hm;replace hl:=Zd hl;replace y:=Zd y;go_in;go_wp2_with fail;(try rw[b5]);refine(Zlu A (some ⟨w.heap.size,0,none⟩) C n c n n n e0 rs (Qa n 0) ws W0 hM.out hZ.out a0.out 0 hE.out).mono ?_;rintro e w1 ⟨rfl,u⟩;go_wp2_with fail;refine(Ztt A (some ⟨w.heap.size,0,none⟩) C n c n e0 m rs (Qa n 0) ws w1 (hM.out.below u) (hZ.out.below u) (a0.out.below u) b3 Gk b9 Gk y.out).mono ?_;rintro e w2 ⟨go,f,rfl,b2,b1,base,a8,b6⟩;have Y:=o.trans ((Gs u b2).mono o.size);obtain⟨⟨zs,U⟩,a9,a7,O,-⟩:=b6
 have V:∀ (i:Nat) (r:RS),f[i]?=some r->r.n=m+1/\m+1<=r.c/\r.c<=maxLen/\FL w2 r.A r.n r.c ((Zo9 rs (Qa n 0) ws n m)[i]?.getD []):=λi r hr=>by
  have hi:i<m:=by rw[<- b1];exact(List.getElem?_eq_some_iff.1 hr).1
  obtain⟨a1,a2⟩:=(O i r hr).rsn
  have a3:((Zo9 rs (Qa n 0) ws n m)[i]?.getD []).length=m+1:=by
   unfold Zo9;rw[Qb,Qe hi,Qq,Qp,Zk4]
  rw[a3]at a1;have a4:=a2.cap;rw[a1]at a4;exact⟨a1,a4.1,a4.2,a2⟩
 have a6:w.heap.size<=go:=Qf (Qf (Gs o u).size a8) a9;replace V:=Zd V;replace O:=Zd O;replace U:=Zd U;replace Y:=Zd Y;clear u b2 o hM a0 hZ c2 a8 a9;go_wp2_with fail
 go_loopg [28] m (λk iv wr=>∃ i:Nat,i+k=m/\iv=.int .i64 i/\Blk wr go 35 (Z7 (Zis f i++zs))/\Kept (λg=>g=go) w2 wr)
 case atStart=>exact⟨0,by omega,rfl,by rw[Zxk];exact U.out,Kept.refl _ _⟩
 case round =>
  obtain⟨i,c7,rfl,I,hK⟩:=hrel;cases gk with
  | zero =>
   obtain rfl:m=i:=Gk;have t2:decide ((m:Int)<(m:Int))=false:=Gh;have b8:=Y.out.trans (hK.to_below (λk hk=>by rw[hk];exact a6) Y.out.size)
   have hfin:MFL wr (some ⟨go,0,none⟩) m m (Zdc rs ws n m):=by
    refine⟨by unfold Zdc;simp,Qk _,by unfold maxLen;omega,λ_=>⟨go,0,rfl,λj q hq=>?_⟩⟩;rw[<- Zya rs (Qa n 0) ws n m,Qb,Qx]at hq;obtain⟨q0,b0,rfl⟩:=hq;have hj:j<f.length:=by rw[a7];exact(List.getElem?_eq_some_iff.1 b0).1
    have hr:=Qm hj;obtain⟨a1,a2,a3,a4⟩:=V.out j _ hr;rw[b0,Qp]at a4;have a5:=(a4.keptS hK U.out).take (k:=m) Gk
    have J:(Zis f m++zs)[j]?=some (f[j]).cut:=by
     rw[<- b1,Z1j,Qg (by simpa using hj),Qb,hr];rfl
    refine⟨_,_,_,by rw[QA,I.cell];exact Zb8 J,?_⟩;simp only[RS.cut,a1];exact a5
   replace hfin:=Zd hfin;clear I hK;go_wp2_with fail;go_returns;exact⟨go,rfl,b8,hfin.out⟩
  | succ k' =>
   obtain rfl:k'=m-(i+1):=Gk;have c6:i<m:=Gk;have t2:decide ((i:Int)<(m:Int))=true:=Gv Gk;have bi:(i:Int)<(m:Int):=Gk;obtain⟨r,hr⟩:=Zb5 (L:=f) (i:=i) Gk;obtain⟨a1,a2,a3,-⟩:=V.out i r hr;have cr:=I.cell i;rw[Zb8 (Z1b hr zs),a1]at cr;have zr:=I.frozen i;unfold maxLen at a3
   have T:Blk (wr.setCell ⟨go,i,none⟩ (.slice r.A m r.c)) go 35 (Z7 (Zis f (i+1)++zs)):=by
    have:=I.set_ i (.slice r.A m r.c);have J:r.cut=⟨r.A,m,r.c⟩:=by simp only[RS.cut,a1];rfl
    have e2:(Zis f i++zs).set i ⟨r.A,m,r.c⟩=Zis f (i+1)++zs:=by rw[<- J,Zzi hr zs]
    rw[show Value.slice r.A m r.c=Value.slice (RS.mk r.A m r.c).A (RS.mk r.A m r.c).n (RS.mk r.A m r.c).c from rfl,Zdz ⟨r.A,m,r.c⟩,e2]at this;exact this
   have c0:Hid (Kept (λg=>g=go) w2 (wr.setCell ⟨go,i,none⟩ (.slice r.A m r.c))):=Zd (hK.set_ (p:=⟨go,i,none⟩) (.inl rfl) _);replace T:=Zd T;have s1:((m+1:Nat):Int)-1=(m:Int):=Gk;have s2:(m:Int)<=(r.c:Int):=Gk;have s3:m<=r.c:=Gk;clear I hK a1;replace hr:=Zd hr;go_wp2_with fail
   go_roundg (m-(i+1))
   case measure=>omega
   case rel=>exact⟨i+1,by omega,by go_num,T.out,c0.out⟩
def Zrc(rs:List RI)(ws:List Int)(n m i:Nat):List Rat:=(Qo m).map λk=>((Zc3 ws (Zcg rs i) (Zcg rs k) n:Int):Rat)
theorem Zt6(rs:List RI)(ws:List Int)(n m i:Nat):(Zrc rs ws n m i).length=m:=by unfold Zrc;simp
theorem Zj4(rs:List RI)(ws:List Int)(n m:Nat):(Zdc rs ws n m).length=m:=by unfold Zdc;simp
