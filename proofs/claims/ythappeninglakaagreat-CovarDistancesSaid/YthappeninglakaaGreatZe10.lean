/- Centroids: sums over a list of pixels, moments about a -/
import Derived.Deep.LoopGhost
import Derived.Test.YthappeninglakaaGreatZe09
import Derived.Test.YthappeninglakaaGreatZe08
set_option maxRecDepth 100000
set_option maxHeartbeats 2000000
set_option linter.unusedSimpArgs false
set_option linter.unusedVariables false
namespace Go.Proofs.YthappeninglakaaGreat
open Go.RowKit
open List renaming mem_cons_of_mem→Qa,mem_cons_self→Qc,getElem?_map→Qd,getElem?_eq_getElem→Qg,all_eq_true→Qh,length_map→Qn,mem_of_getElem?→Qq,filter_cons_of_neg→Qv,filter_cons_of_pos→Qw,ext_getElem?→Qx,getElem?_set→Qy,mem_or_eq_of_mem_set→QB,length_cons→QE,getElem?_eq_none→QF,getElem?_range→QG,map_set→QH,foldl_cons→QK,mem_filter→QL
open _root_.Array renaming getD_eq_getD_getElem?→Qb,getElem?_eq_getElem→Qf,getElem?_setIfInBounds_self→Qm,getElem?_eq_none→Qo,setIfInBounds_comm→Qt
open Bool renaming and_eq_true→Qe,not_eq_true'→Qj,or_eq_true→QA
open Int renaming natAbs_natCast→Qi,natAbs_mul→Qp
open Nat renaming lt_of_lt_of_le→Qk,lt_of_le_of_lt→Ql,lt_or_ge→QD,add_right_comm→QI
open Option renaming getD_some→Qr
open Act renaming put→Qs
open Ne renaming symm→Qu
open And renaming intro→Qz
open Below renaming refl→QC
open Rat renaming divInt→QJ
theorem Zn0(a b:Int)(h:b≠0):(QJ a b).num.natAbs<=a.natAbs:=by
 rw[Rat.num_divInt];rw[Int.natAbs_ediv_of_dvd];exact FI;exact Int.dvd_trans (Int.gcd_dvd_right _ _) (Int.dvd_mul_left _ _)
theorem Zmf(a b:Int)(h:b≠0):(QJ a b).den<=b.natAbs:=by
 rw[Rat.den_divInt,Gw h];exact Nat.div_le_self _ _
theorem Zed:1<pw 1:=by rw[Za7,Zd1];decide
def SmN(i j:Nat)(r:Rat):Prop:=r.num.natAbs<pw i/\r.den<pw j
theorem SmN.sm{i j:Nat}{r:Rat}(h:SmN i j r)(hi:i<=1000)(hj:j<=1000):Sm r:=⟨Qk h.1 (Zb6 hi),Qk h.2 (Zb6 hj)⟩
theorem SmN.mono{i j i' j':Nat}{r:Rat}(h:SmN i j r)(hi:i<=i')(hj:j<=j'):SmN i' j' r:=⟨Qk h.1 (Zb6 hi),Qk h.2 (Zb6 hj)⟩
theorem SmN.div{i j:Nat}{n s:Int}(h0:0<s)(hn:n.natAbs<pw i)(hs:s.natAbs<pw j):SmN i j (QJ n s):=
 ⟨Ql (Zn0 n s Gk) hn,Ql (Zmf n s Gk) hs⟩
theorem SmN.int{i:Nat}{n:Int}(hn:n.natAbs<pw i):SmN i 1 (n:Rat):=⟨by simpa using hn,by simp only[Rat.den_intCast];exact Zed⟩
theorem Zpr{x y z v:Int}{i j i' j':Nat}(hx:x.natAbs<pw i)(hy:y.natAbs<pw j)(hz:z.natAbs<pw i')(hv:v.natAbs<pw j'):(x*y).natAbs+(z*v).natAbs<pw (max (i+j) (i'+j')+1):=by
 have h1:(x*y).natAbs<pw (max (i+j) (i'+j')):=by
  rw[Qp];exact Qk (Zc2 hx hy) (Zb6 Gk)
 have h2:(z*v).natAbs<pw (max (i+j) (i'+j')):=by
  rw[Qp];exact Qk (Zc2 hz hv) (Zb6 Gk)
 have h3:=Zqh (max (i+j) (i'+j'));omega
theorem SmN.dn{i j:Nat}{r:Rat}(h:SmN i j r):((r.den:Nat):Int).natAbs<pw j:=by simpa using h.2
theorem IU{G:Prop}(h:G:=by
 refine SmN.div (Zck a b) ?_ ?_;have:=Zpr ha.1 hb.dn hb.1 ha.dn;omega;rw[Int.natAbs_mul];exact Zc2 ha.dn hb.dn):G:=h
theorem SmN.sub{i j i' j':Nat}{a b:Rat}(ha:SmN i j a)(hb:SmN i' j' b):SmN (max (i+j') (i'+j)+1) (j+j') (a-b):=by
 rw[<- Zq7];exact IU
theorem SmN.add{i j i' j':Nat}{a b:Rat}(ha:SmN i j a)(hb:SmN i' j' b):SmN (max (i+j') (i'+j)+1) (j+j') (a+b):=by
 rw[<- rat_add];exact IU
structure RF where
 g:Nat
 c:Nat
 q:List Rat
def RF.rs(r:RF):RS:=⟨some ⟨r.g,0,none⟩,r.q.length,r.c⟩
def MatB(tS tF:TypeId)(w:World)(go:Nat)(L:List RF):Prop:=
 (∃ zs,Blk w go tS (Z6 (L.map RF.rs++zs)))/\(∀ r ∈ L,FOwn tF w r.g r.q/\r.q.length<=r.c/\r.c<=maxLen)/\(go::L.map RF.g).Nodup
section
variable{tS tF:TypeId}{w w':World}{go:Nat}{L:List RF}
theorem IZ{G:Prop}(h:G:=by
 obtain⟨⟨zs,h1⟩,h2,h3⟩:=h;exact⟨⟨zs,Zc hb h1⟩,λr hr=>⟨(h2 r hr).1.below hb,(h2 r hr).2⟩,h3⟩):G:=h
theorem MatB.below(h:MatB tS tF w go L)(hb:Below w.heap.size w w'):MatB tS tF w' go L:=by
 exact IZ
theorem FV{G:Prop}(h:G:=by
 obtain⟨⟨zs,h1⟩,-,-⟩:=h;refine⟨?_,h1.frozen i⟩;rw[h1.cell];refine Zb4 (e:=r.rs) ?_;have hi:=(List.getElem?_eq_some_iff.1 hr).1;rw[List.getElem?_append_left (by simpa using hi),List.getElem?_map,hr];rfl):G:=h
theorem MatB.cell(h:MatB tS tF w go L){i:Nat}{r:RF}(hr:L[i]?=some r):w.cell? ⟨go,i,none⟩=some (.slice (some ⟨r.g,0,none⟩) r.q.length r.c)/\w.frozen? ⟨go,i,none⟩=false:=by
 exact FV
theorem MatB.row(h:MatB tS tF w go L){i:Nat}{r:RF}(hr:L[i]?=some r):FOwn tF w r.g r.q/\r.q.length<=r.c/\r.c<=maxLen:=h.2.1 r (Qq hr)
theorem IP{G:Prop}(h:G:=by
 have:=(List.nodup_cons.1 h.2.2).1;exact this (List.mem_map.2 ⟨r,List.mem_of_getElem? hr,e.symm⟩)):G:=h
theorem MatB.ne(h:MatB tS tF w go L){i:Nat}{r:RF}(hr:L[i]?=some r):go≠r.g:=λe=>by
 exact IP
theorem Ie{G:Prop}(h:G:=by
 exact aM ((List.getElem?_inj (by have:=(List.getElem?_eq_some_iff.1 h1).1;exact this) hn).1 (h1.trans h2.symm))):G:=h
theorem MatB.ne2(h:MatB tS tF w go L){i j:Nat}{r s:RF}(hr:L[i]?=some r)(hs:L[j]?=some s)(aM:i≠j):r.g≠s.g:=λe=>by
 have hn:=(List.nodup_cons.1 h.2.2).2;have h1:(L.map RF.g)[i]?=some r.g:=by rw[Qd,hr];rfl
 have h2:(L.map RF.g)[j]?=some r.g:=by rw[Qd,hs,e];rfl
 exact Ie
theorem FB{G:Prop}(h:G:=by
 intro k hk;obtain⟨⟨zs,h1⟩,h2,-⟩:=h;rcases hk with rfl|hk;exact⟨tS,_,h1,Za9 _⟩;obtain⟨r,hr,rfl⟩:=List.mem_map.1 hk;exact(h2 r hr).1.box):G:=h
theorem MatB.boxes(h:MatB tS tF w go L):∀ k,(k=go \/ k ∈ L.map RF.g)->∃ t cs,Blk w k t cs/\NoLimb cs:=by
 exact FB
theorem FM{G:Prop}(h:G:=by
 rw[List.map_set];apply List.ext_getElem?;intro j;rw[List.getElem?_set];by_cases aM:i=j
 ·subst aM
  rw[Gx rfl,Gx (by simpa using hi),List.getElem?_map,hr];rfl
 rw[Gw aM]):G:=h
theorem MatB.set_(h:MatB tS tF w go L){i:Nat}{r:RF}(hr:L[i]?=some r){k:Nat}(hk:k<r.q.length){na:Bool}{A:Option Addr}{n c:Nat}{nb:Bool}{B:Option Addr}{m d:Nat}{x:Rat}(hf:Fr w na A n c nb B m d x) :
    MatB tS tF (Zgf w r.g k na A n c nb B m d) go (L.set i ⟨r.g,r.c,r.q.set k x⟩):=by
 have y:=h.ne hr;have u:=λ{j:Nat} {s:RF} (hs:L[j]?=some s) (aM:j≠i)=>h.ne2 hs hr aM;have f:=h.row hr;have hi:=(List.getElem?_eq_some_iff.1 hr).1;obtain⟨⟨zs,h1⟩,h2,h3⟩:=h;refine⟨⟨zs,?_⟩,λs hs=>?_,?_⟩
 ·have e:(L.set i ⟨r.g,r.c,r.q.set k x⟩).map RF.rs=L.map RF.rs:=by
    rw[QH];apply Qx;intro j;rw[Qy];by_cases aM:i=j
    ·subst aM
     rw[Gx rfl,Gx (by simpa using hi),Qd,hr];simp[RF.rs]
    rw[Gw aM]
  rw[e];exact Zj8 h1 y
 ·obtain⟨j,hj,C⟩:=List.getElem_of_mem hs
  have o:(L.set i ⟨r.g,r.c,r.q.set k x⟩)[j]?=some s:=by rw[Qg hj,C]
  rw[Qy]at o;by_cases aM:i=j
  ·subst aM
   rw[Gx rfl,Gx hi]at o;cases o;exact⟨f.1.set_ hk hf,by simpa using f.2.1,f.2.2⟩
  rw[Gw aM]at o;have:=h2 s (Qq o);exact⟨this.1.other (u o (Qu aM)) f.1.box,this.2⟩
 have e:(L.set i ⟨r.g,r.c,r.q.set k x⟩).map RF.g=L.map RF.g:=by
   exact FM
 rw[e];exact h3
theorem Z0j{α:Type}{l:List α}{i j:Nat}{x y:α}(hx:l[i]?=some x)(hy:l[j]?=some y):Zag l i j=(l.set i y).set j x:=by unfold Zag;rw[hx,hy]
theorem Zlb{α β:Type}(f:α->β)(l:List α)(i j:Nat):(Zag l i j).map f=Zag (l.map f) i j:=by
 unfold Zag;rw[Qd,Qd];cases l[i]? with
 | none=>rfl
 | some x=>cases l[j]? with
  | none=>rfl
  | some y=>simp[QH]
theorem Zi8{α:Type}(l:List α)(i j:Nat):∀ x,x ∈ Zag l i j->x ∈ l:=by
 intro x hx;unfold Zag at hx
 split at hx
 ·rename_i a b ha hb
  rcases QB hx with hx|rfl
  ·rcases QB hx with hx|rfl
   exact hx;exact Qq hb
  exact Qq ha
 exact hx
theorem Ztt{l:List Nat}(h:l.Nodup){i j:Nat}(hi:i<l.length)(hj:j<l.length):(Zag l i j).Nodup:=by
 unfold List.Nodup;rw[List.pairwise_iff_getElem];intro a b ha hb o e;rw[Zeb]at ha hb;have h1:(Zag l i j)[a]?=(Zag l i j)[b]?:=by rw[Qg (by rw[Zeb];exact ha),Qg (by rw[Zeb];exact hb),e]
 rw[Zdv hi hj,Zdv hi hj]at h1;have f:swI i j a<l.length:=Zhx hi hj ha;have:=(List.getElem?_inj f h).1 h1;have h2:swI i j (swI i j a)=swI i j (swI i j b):=by rw[this]
 rw[Zqu,Zqu]at h2;omega
theorem MatB.keptG{G:Nat->Prop}(h:MatB tS tF w go L)(hk:Kept G w w')(hg:¬ G go)(hgs:∀ r ∈ L,¬ G r.g)(hG:∀ k,G k->∃ t cs,Blk w k t cs/\NoLimb cs):MatB tS tF w' go L:=by
 obtain⟨⟨zs,h1⟩,h2,h3⟩:=h;refine⟨⟨zs,hk.blk h1 hg⟩,λr hr=>⟨?_,(h2 r hr).2⟩,h3⟩;obtain⟨es,fs,q1,q2,q3⟩:=(h2 r hr).1;exact⟨es,fs,hk.blk q1 (hgs r hr),λe he=>⟨hk.wd (q2 e he).1 hG,hk.wd (q2 e he).2 hG⟩,q3⟩
end
def Zdf(L:List RF)(i:Nat):List Rat:=(L[i]?.map RF.q).getD []
theorem Zgl{L:List RF}{i:Nat}{r:RF}(h:L[i]?=some r):Zdf L i=r.q:=by unfold Zdf;rw[h];rfl
theorem FD{G:Prop}(h:G:=by
 rw[List.getElem?_eq_getElem (show i<L.length by omega),List.getElem?_eq_getElem hi]at this ⊢;simp only[Option.map_some,Option.getD_some]at this ⊢;rw[this]):G:=h
theorem Z1c{L:List RF}{R:List (List Rat)}(hl:L.length=R.length)(h:∀ i,i<R.length->Zdf L i=R[i]?.getD []):L.map RF.q=R:=by
 apply Qx;intro i;rw[Qd];by_cases hi:i<R.length
 ·have:=h i hi
  unfold Zdf at this;exact FD
 rw[QF Gk,QF Gk];rfl
theorem Zn3(L:List RF)(i:Nat):Zdf L i=(L.map RF.q)[i]?.getD []:=by unfold Zdf;rw[Qd]
theorem Zjg{R:List (List Rat)}{r col i:Nat}(hi:i<R.length):(Zbq R r col)[i]?.getD []=if i<=r then R[i]?.getD []else Zok (R[r]?.getD []) (R[i]?.getD []) col:=by
 unfold Zbq;rw[Qd,QG hi];rfl
theorem IM{G:Prop}(h:G:=by
 rw[List.getElem?_eq_none Gk,List.getElem?_eq_none (l:=List.range _) (by simpa using ht)];rfl):G:=h
theorem rowR_eq{p row q:List Rat}{col:Nat}(hl:q.length=row.length)(h:∀ t,q[t]?.getD 0=if col<=t/\t<row.length then row[t]?.getD 0-row[col]?.getD 0/p[col]?.getD 0*p[t]?.getD 0 else row[t]?.getD 0):q=Zok p row col:=by
 apply Qx;intro t;unfold Zok;rw[Qd];have:=h t;by_cases ht:t<row.length
 ·rw[QG ht]
  rw[Qg (show t<q.length by omega)]at this ⊢;simp only[Option.map_some,Qr]at this ⊢;rw[this];by_cases hc:t<col;rw[Gx hc,Gw Gk];rw[Gw hc,Gx Gk]
 exact IM
theorem Zz8{row q:List Rat}{col k:Nat}{x:Rat}{f:Nat->Rat}(hl:q.length=row.length)(hk:col<=k)(hkl:k<row.length)(hx:x=f k)(h:∀ t,q[t]?.getD 0=if col<=t/\t<k then f t else row[t]?.getD 0) :
    ∀ t,(q.set k x)[t]?.getD 0=if col<=t/\t<k+1 then f t else row[t]?.getD 0:=by
 intro t;rw[Qy];by_cases ht:k=t
 ·subst ht
  rw[Gx rfl,Gx Gk,Gx Gk,hx];rfl
 rw[Gw ht,h t];by_cases h1:col<=t/\t<k;rw[Gx h1,Gx Gk];rw[Gw h1,Gw Gk]
section
variable{a b:Rat}{i j k l:Nat}
theorem SmN.mulN(h:SmN i j a)(g:SmN k l b):SmN (i+k) (j+l) (a*b):=by
 rw[<- Zl3 a b];have hd:((a.den:Int)*(b.den:Nat))≠0:=Int.ne_of_gt (Zck a b);refine⟨Ql (Zn0 _ _ hd) ?_,Ql (Zmf _ _ hd) ?_⟩;rw[Qp];exact Zc2 h.1 g.1;rw[Qp,Qi,Qi];exact Zc2 h.2 g.2
theorem SmN.divN(h:SmN i j a)(g:SmN k l b)(h0:b≠0):SmN (i+l) (j+k) (a/b):=by
 rw[<- Zfo a b h0];have hd:=Zgt a b h0;refine⟨Ql (Zn0 _ _ hd) ?_,Ql (Zmf _ _ hd) ?_⟩;rw[Qp,Qi];exact Zc2 h.1 g.2;rw[Qp,Qi];exact Zc2 h.2 g.1
end
def cn(f1 f2:Nat)(l:Array Bool)(s1 s2:Bool):Array Bool:=
 let l:=if s1 then l.setIfInBounds f1 true else l
 if s2 then l.setIfInBounds f2 true else l
theorem Z1d{t:Array Value}{d:Nat}{u:Value}(h:t[d]?=some u):t.setIfInBounds d u=t:=by
 apply Array.ext;simp;intro i h1 h2;rw[Array.getElem_setIfInBounds (by simpa using h1)]
 split
 ·rename_i e
  subst e;rw[Qf h2]at h;injection h with h
  exact h.symm
 rfl
section
variable{P:Program}{ops:Array Oper}{Q:Exit->Act->World->Prop}{md:Region.Mode}{L:List Nat}{S:World->Prop}{f1 f2 d1 d2 F:Nat}{t1 t2:TypeId}{z1 z2:Array Value}
theorem Zm{i:Nat}{o:Oper}{K:Act->World->Prop}{a:Act}{w:World}(ho:ops[i]?=some o)
    (h:∀ K':Act->World->Prop,Shut (∀ a w,K a w->K' a w)->if Region.wanted o (yielded ops a.tmps)=true then Oper.wp P o a w K' Q else K' (a.put o.dst undef) w):wpOp P ops Q i K a w:=
 wpOp_step ho (λK' hK=>h K' hK)
end
def Zbd(md:Region.Mode)(ops:Array Oper)(i:Nat):List Nat:=match ops[i]? with|some o=>(o.after.toList.filter (λe=>Region.binds md e)).map (·.on)|none=>[]
def Zbl(ops:Array Oper)(i:Nat):Nat:=match ops[i]? with|some o=>o.dst.getD 0|none=>0
def Zbs(R:List Nat)(l:Array Bool):Array Bool:=R.foldl (λl i=>l.setIfInBounds i true) l
def clo(md:Region.Mode)(ops:Array Oper):List Nat->List Nat->List Nat
 | [],c=>c
 | r::rs,c=>clo md ops rs (if c.contains r then Zbd md ops r++c else c)
def Zcb:List Nat->Bool
 | []=>true
 | x::l=>!l.contains x && Zcb l
def Zam:List Nat->Act->(Nat->Value)->Act
 | [],a,_=>a
 | d::ds,a,ν=>Zam ds (a.put (some d) (ν d)) ν
def upd(ν:Nat->Value)(d:Nat)(v:Value):Nat->Value:=λk=>if k=d then v else ν k
theorem Zzq{a:Act}{d e:Nat}{u v:Value}(h:d≠e):(a.put (some d) u).put (some e) v=(a.put (some e) v).put (some d) u:=by
 simp only[Qs];rw[Qt _ _ h]
theorem Zw6{ds:List Nat}{a:Act}{ν:Nat->Value}{d:Nat}{v:Value}(h:d ∉ ds):Zam ds (a.put (some d) v) ν=(Zam ds a ν).put (some d) v:=by
 induction ds generalizing a with
 | nil=>rfl
 | cons e ds ih =>
  have h1:d≠e:=λh'=>h (h'▸Qc ..);show Zam ds ((a.put (some d) v).put (some e) (ν e)) ν=_;rw[Zzq h1,ih (λh'=>h (Qa _ h'))];rfl
theorem Zoh{ds:List Nat}{a:Act}{ν:Nat->Value}{d:Nat}{v:Value}(h:d ∉ ds):Zam ds a (upd ν d v)=Zam ds a ν:=by
 induction ds generalizing a with
 | nil=>rfl
 | cons e ds ih =>
  have h1:e≠d:=λh'=>h (h'▸Qc ..);show Zam ds (a.put (some e) (upd ν d v e)) (upd ν d v)=Zam ds (a.put (some e) (ν e)) ν;rw[ih (λh'=>h (Qa _ h'))];simp only[upd,Gw h1]
theorem put_put{a:Act}{d:Nat}{u v:Value}:(a.put (some d) u).put (some d) v=a.put (some d) v:=by
 simp only[Qs];rw[Array.setIfInBounds_setIfInBounds]
theorem Zb5{x:Nat}{l:List Nat}(h:Zcb (x::l)=true):x ∉ l/\Zcb l=true:=by
 simp only[Zcb,Qe,Qj]at h;exact⟨λhx=>by rw[List.contains_iff_mem.2 hx]at h;exact absurd h.1 Gh,h.2⟩
theorem Zlh{ds:List Nat}{a:Act}{ν:Nat->Value}{d:Nat}{v:Value}(h:d ∈ ds)(hn:Zcb ds=true):(Zam ds a ν).put (some d) v=Zam ds a (upd ν d v):=by
 induction ds generalizing a with
 | nil=>cases h
 | cons e ds ih =>
  obtain⟨h1,h2⟩:=Zb5 hn;show (Zam ds (a.put (some e) (ν e)) ν).put (some d) v=Zam ds (a.put (some e) (upd ν d v e)) (upd ν d v);by_cases hd:d=e
  ·subst hd
   rw[<- Zw6 h1,put_put,Zoh h1];simp only[upd,if_true]
  rcases List.mem_cons.1 h with h'|h';exact absurd h' hd;rw[ih h' h2];simp only[upd,Gw (Qu hd)]
theorem Ztx{ds:List Nat}{a:Act}:Zam ds a (λd=>a.tmps.getD d undef)=a:=by
 induction ds with
 | nil=>rfl
 | cons d ds ih =>
  show Zam ds (a.put (some d) (a.tmps.getD d undef)) _=a
  have:a.put (some d) (a.tmps.getD d undef)=a:=by
   cases a with
   | mk t df =>
    simp only[Qs];congr 1;rcases QD d t.size with h|h;exact Z1d (by rw[Qb,Qf h];rfl);exact Array.setIfInBounds_eq_of_size_le h
  rw[this];exact ih
theorem Zcm(R:List Nat)(l:Array Bool)(k:Nat):(Zbs R l).getD k true=if k ∈ R then true else l.getD k true:=by
 unfold Zbs
 induction R generalizing l with
 | nil=>simp
 | cons r R ih =>
  rw[QK,ih];by_cases h1:k ∈ R;rw[Gx h1,Gx (Qa _ h1)];rw[Gw h1];by_cases h2:k=r
  ·subst h2
   rw[Gx (Qc ..)];rw[Qb,Array.getElem?_setIfInBounds]
   split
   ·split <;> rfl
   rename_i h;exact absurd rfl h
  rw[Gw (λh=>by rcases List.mem_cons.1 h with h|h;exact h2 h;exact h1 h),Go.getD_set_ne true (Qu h2)]
theorem Zg2(R:List Nat)(l:Array Bool):(Zbs R l).size=l.size:=by
 unfold Zbs
 induction R generalizing l with
 | nil=>rfl
 | cons r R ih=>rw[QK,ih];simp
theorem Zt8{l m:Array Bool}(hs:l.size=m.size)(h:∀ k,l.getD k true=m.getD k true):l=m:=by
 apply Array.ext hs;intro i h1 h2;have:=h i;rw[Qb,Qb,Qf h1,Qf h2]at this;exact this
section
variable{P:Program}{ops:Array Oper}{Q:Exit->Act->World->Prop}{md:Region.Mode}{L:List Nat}{S:World->Prop}
theorem Zts{l:Array Bool}{R:List Nat}(hd:∀ r ∈ R,l.getD r false=true->∀ p ∈ Zbd md ops r,l.getD p false=true) :
    ∀ (rs:List Nat) (c:List Nat),(∀ r ∈ rs,r ∈ R)->(∀ x ∈ c,l.getD x false=true)->∀ x ∈ clo md ops rs c,l.getD x false=true
 | [],c,_,hc,x,hx=>hc x hx
 | r::rs,c,hr,hc,x,hx=>by
  refine Zts hd rs _ (λy hy=>hr y (Qa _ hy)) (λy hy=>?_) x hx
  split at hy
  ·rename_i h1
   rcases List.mem_append.1 hy with h2|h2;exact hd r (hr r (Qc ..)) (hc r (List.contains_iff_mem.1 h1)) y h2;exact hc y h2
  exact hc y hy
theorem Zez{l:Array Bool}{k:Nat}(h:l.getD k false=true):l.getD k true=true:=by
 rw[Qb]at h ⊢;cases hk:l[k]? with
 | none=>rfl
 | some b=>rw[hk]at h;exact h
theorem Zaz{l:Array Bool}{k j:Nat}(h:l.getD k false=true):(l.setIfInBounds j true).getD k false=true:=by
 by_cases hkj:j=k
 ·subst hkj
  rw[Qb,Qm];rw[Qb]at h
  split
  rfl;rename_i h1;rw[Qo Gk]at h;cases h
 rw[Go.getD_set_ne false hkj];exact h
theorem Zmv{i:Nat}{l:Array Bool}(h:i ∈ Region.ready md ops l):l.getD i true=false/\i<ops.size/\∀ p ∈ Zbd md ops i,l.getD p false=true:=by
 obtain⟨h1,o,ho,h2⟩:=mem_ready.1 h;refine⟨h1,(Array.getElem?_eq_some_iff.1 ho).1,λp hp=>?_⟩;unfold Zbd at hp;rw[ho]at hp;obtain⟨e,he,rfl⟩:=List.mem_map.1 hp;rw[QL]at he;exact h2 e (by simpa using he.1) he.2
theorem Zhz{i:Nat}{l:Array Bool}(h1:l.getD i true=false){o:Oper}(ho:ops[i]?=some o)(h:∀ p ∈ Zbd md ops i,l.getD p false=true):i ∈ Region.ready md ops l:=by
 refine mem_ready.2 ⟨h1,o,ho,λe he hb=>h _ ?_⟩;unfold Zbd;rw[ho];exact List.mem_map.2 ⟨e,List.mem_filter.2 ⟨by simpa using he,hb⟩,rfl⟩
def left(R:List Nat)(l:Array Bool):Nat:=(R.filter λr=>!l.getD r true).length
theorem Zmw{f:Nat->Nat}:∀ {R:List Nat},Zcb (R.map f)=true->Zcb R=true
 | [],_=>rfl
 | r::R,h=>by
  obtain⟨h1,h2⟩:=Zb5 (x:=f r) (l:=R.map f) h;simp only[Zcb,Qe,Qj];refine⟨?_,Zmw h2⟩;cases hc:R.contains r with
  | false=>rfl
  | true=>exact absurd (List.mem_map.2 ⟨r,List.contains_iff_mem.1 hc,rfl⟩) h1
theorem Zf5{f:Nat->Nat}:∀ {R:List Nat},Zcb (R.map f)=true->∀ {r i:Nat},r ∈ R->i ∈ R->r≠i->f r≠f i
 | [],_,_,_,h,_,_=>by cases h
 | x::R,h,r,i,hr,hi,hne=>by
  obtain⟨h1,h2⟩:=Zb5 (x:=f x) (l:=R.map f) h;rcases List.mem_cons.1 hr with u|u
  ·rcases List.mem_cons.1 hi with o|o
   exact absurd (u.trans o.symm) hne;exact λe=>h1 (List.mem_map.2 ⟨i,o,by rw[<- e,u]⟩)
  rcases List.mem_cons.1 hi with o|o;exact λe=>h1 (List.mem_map.2 ⟨r,u,by rw[e,o]⟩);exact Zf5 h2 u o hne
theorem Zxe{R:List Nat}{l:Array Bool}{i:Nat}(hi:i ∉ R):left R (l.setIfInBounds i true)=left R l:=by
 unfold left;congr 1;apply List.filter_congr;intro r hr;rw[Go.getD_set_ne true (λe:i=r=>hi (e▸hr))]
theorem Zmp{R:List Nat}{l:Array Bool}{i:Nat}(hn:Zcb R=true)(hi:i ∈ R)(h:l.getD i true=false):left R (l.setIfInBounds i true)+1=left R l:=by
 have f:i<l.size:=by
  rcases QD i l.size with h'|h';exact h';rw[Qb,Qo h']at h;cases h
 have e:(l.setIfInBounds i true).getD i true=true:=by
  rw[Qb,Qm,Gx f];rfl
 induction R with
 | nil=>cases hi
 | cons r R ih =>
  obtain⟨n1,n2⟩:=Zb5 hn;by_cases hr:i=r
  ·subst hr
   have:=Zxe (l:=l) n1;unfold left at this ⊢;rw[Qv (by simp[e]),Qw (by simp[h]),this];rfl
  have o:i ∈ R:=by
    rcases List.mem_cons.1 hi with h'|h';exact absurd h' hr;exact h'
  have:=ih n2 o;unfold left at this ⊢;by_cases hb:l.getD r true=true;rw[Qv (by rw[Go.getD_set_ne true hr];simp[hb]),Qv (by simp[hb])];exact this;rw[Qw (by rw[Go.getD_set_ne true hr];simpa using hb),Qw (by simpa using hb),QE,QE,this]
theorem Ztc(R:List (Nat × Nat))(h:R.all (λp=>Zbl ops p.1 == p.2)=true):(R.map (·.1)).map (Zbl ops)=R.map (·.2):=by
 rw[List.map_map];apply List.map_congr_left;intro p hp;rw[Qh]at h;simpa using h p hp
end
section
variable{P:Program}{ops:Array Oper}{Q:Exit->Act->World->Prop}{md:Region.Mode}{L:List Nat}{S:World->Prop}
theorem Zkr{i:Nat}{oi:Oper}{v:Value}(hi:ops[i]?=some oi)(hsel:∀ (j:Nat) (o:Oper) cs b,ops[j]?=some o->o.op ≠ .select cs b)
    (hQ:∀ c a w,Q (.panic c) (a.put oi.dst v) w->Q (.panic c) a w) (hiL:L.contains i=false) :
    ∀ (fuel:Nat) (listed:Array Bool) (a:Act) (w:World),
     (∀ j oj,ops[j]?=some oj->j≠i->listed.getD j true=false->(∀ e ∈ oj.after,Region.binds md e=true->e.on≠i)->oi.apart ops oj=true) ->
     i ∈ Region.ready md ops listed->YieldsIf P ops (λ_=>True) oi v a->(Zcz L listed=true->S w) ->
     Zab P md ops Q L S fuel (listed.setIfInBounds i true) (a.put oi.dst v) w->Zab P md ops Q L S (fuel+1) listed a w:=by
 have f:i ∉ L:=λh=>by
  rw[List.contains_iff_mem.2 h]at hiL;cases hiL
 intro fuel
 induction fuel with
 | zero =>
  intro listed a w _ hr hy hS H;refine⟨λh=>(by rw[h]at hr;cases hr),λj hj=>?_⟩;by_cases hji:j=i;subst hji;exact hy.wpOp hi trivial ⟨λh=>hS (by rwa [Zdg f]at h),H⟩;have:=ready_mono hj hji;rw[H.1]at this;cases this
 | succ fuel ih =>
  intro listed a w bM hr hy hS H;refine⟨λh=>(by rw[h]at hr;cases hr),λj hj=>?_⟩;by_cases hji:j=i;subst hji;exact hy.wpOp hi trivial ⟨λh=>hS (by rwa [Zdg f]at h),H⟩;have h1:=H.2 j (ready_mono hj hji);obtain⟨dv,oj,y,au⟩:=mem_ready.1 hj
  have I:∀ e ∈ oj.after,Region.binds md e=true->e.on≠i:=λe he hb heq=>by
   exact FO
  have h2:=wpOp_putIf y (bM j oj y hji dv I) (λcs b=>hsel i oi cs b hi) (λcs b=>hsel j oj cs b y) hQ hy h1
  have u:∀ k ok,ops[k]?=some ok->k≠i->(listed.setIfInBounds j true).getD k true=false ->
      (∀ e ∈ ok.after,Region.binds md e=true->e.on≠i)->oi.apart ops ok=true:=λk ok hk hki hun iJ=>by
   exact Ig
  refine wpOp_mono (λa' w' h3=>?_) h2
  have C:Zcz L (listed.setIfInBounds j true)=true->S w':=λh=>h3.2.1 (by
   rw[Qt _ _ (Qu hji),Zdg f];exact h)
  refine⟨C,ih (listed.setIfInBounds j true) a' w' u (ready_mono hr (Qu hji)) h3.1 C ?_⟩;rw[Qt _ _ hji];exact h3.2.2
theorem Zj{i:Nat}{oi:Oper}{v:Value}{fuel:Nat}{listed:Array Bool}{a:Act}{w:World}(hi:ops[i]?=some oi)
    (hs:Region.noSelect ops=true) (hf:Region.free md ops listed i=true) (hr:(Region.ready md ops listed).contains i=true) (hL:L.contains i=false)
    (hy:YieldsIf P ops (λ_=>True) oi v a) (hS:Zcz L listed=true->S w)
    (h:Zab P md ops (OnlyNormal Q) L S fuel (listed.setIfInBounds i true) (a.put oi.dst v) w):Zab P md ops (OnlyNormal Q) L S (fuel+1) listed a w:=
 Zkr hi (Region.noSelect_spec hs) (λ_ _ _ h=>(h:False).elim) hL fuel listed a w (Region.free_spec hi hf) (by simpa using hr) hy hS h
end
def Zg5(md:Region.Mode)(ops:Array Oper)(L:List Nat):List Nat->Array Bool->Bool
 | [],_=>true
 | i::is,l=>Region.free md ops l i && (Region.ready md ops l).contains i && !L.contains i && Zg5 md ops L is (l.setIfInBounds i true)
section
variable{P:Program}{ops:Array Oper}{Q:Exit->Act->World->Prop}{md:Region.Mode}{L:List Nat}{S:World->Prop}
theorem Zf6(hs:Region.noSelect ops=true){w:World}(hS:S w):∀ (is:List Nat) (F:Nat) (listed:Array Bool) (a:Act),Zg5 md ops L is listed=true->Zcy P ops (λ_=>True) is a (λa'=>Zab P md ops (OnlyNormal Q) L S F (Zd2 is listed) a' w)->Zab P md ops (OnlyNormal Q) L S (F+is.length) listed a w
 | [],F,l,a,_,h=>h
 | i::is,F,l,a,hc,h=>by
  obtain⟨oi,v,ho,hy,h2⟩:=h;simp only[Zg5,Qe,Qj]at hc;exact Zj ho hs hc.1.1.1 hc.1.1.2 hc.1.2 hy (λ_=>hS) (Zf6 hs hS is F _ _ hc.2 h2)
theorem Zgp{F:Nat}{listed:Array Bool}{a:Act}{w:World}(k:Nat)(is:List Nat)(hk:is.length=k)(hc:(Region.noSelect ops && Zg5 md ops L is listed)=true)(hS:S w)
    (h:Zcy P ops (λ_=>True) is a (λa'=>Zab P md ops (OnlyNormal Q) L S F (Zd2 is listed) a' w)):Zab P md ops (OnlyNormal Q) L S (F+k) listed a w:=by
 rw[Qe]at hc;subst hk;exact Zf6 hc.1 hS is F listed a hc.2 h
end
def Zbj(R:List Nat)(att:Nat->List Nat):List Nat:=R.flatMap λi=>i::att i
def Ziy(md:Region.Mode)(ops:Array Oper)(l:Array Bool)(i:Nat):List Nat->List Nat->Bool
 | [],_=>true
 | u::us,done=>(match ops[u]? with|some o=>o.dst.isSome|none=>false) && (Zbd md ops u).contains i && !l.getD u true && (Zbd md ops u).all (λp=>p == i || done.contains p || l.getD p false || (Zbd md ops i).contains p) &&
     ((List.range ops.size).all λj=>j == u || (j == i || done.contains j || l.getD j false || (Zbd md ops i).contains j) || (Zbd md ops j).contains u || (match ops[u]?,ops[j]? with|some ou,some oj=>ou.apart ops oj|_,_=>true)) && Ziy md ops l i us (u::done)
def Zv7(md:Region.Mode)(ops:Array Oper)(att:Nat->List Nat):List Nat->Array Bool->Bool
 | [],_=>true
 | r::rs,l=>!l.getD r true && (match ops[r]? with|some o=>o.dst.isSome|none=>false) && (Zbd md ops r).all (λp=>l.getD p false) && Zv7 md ops att rs (Zbs (r::att r) l)
def Z0r(md:Region.Mode)(ops:Array Oper)(R F:List Nat)(l:Array Bool):Bool:=
 (List.range ops.size).all λk=>F.contains k || l.getD k true || (Zbd md ops k).any (λp=>!F.contains p && !l.getD p false) || (R.all λr=>(clo md ops F.reverse (Zbd md ops k)).contains r)
def Zml(md:Region.Mode)(ops:Array Oper)(R:List Nat)(att:Nat->List Nat)(l:Array Bool):Bool:=
 Zv7 md ops att R l && Z0r md ops R (Zbj R att) l && Zcb ((Zbj R att).map (Zbl ops)) && decide (l.size=ops.size) && R.all (λi=>Ziy md ops l i (att i) []) && Region.noSelect ops
section
variable{P:Program}{ops:Array Oper}{Q:Exit->Act->World->Prop}{md:Region.Mode}{L:List Nat}{S:World->Prop}
def Zsm(P:Program)(ops:Array Oper)(Φ:Nat->Value->World->Prop)(w:World):List Nat->Act->Prop
 | [],_=>True
 | u::us,a=>∃ o v,ops[u]?=some o/\YieldsIf P ops (λ_=>True) o v a/\Φ u v w/\Zsm P ops Φ w us (a.put o.dst v)
theorem Zhq{l:Array Bool}{i:Nat}(h:i<l.size):(l.setIfInBounds i true).getD i false=true:=by
 rw[Qb,Qm,Gx h];rfl
theorem Zch{us:List Nat}{l:Array Bool}{k:Nat}(h:l.getD k false=true):(Zbs us l).getD k false=true:=by
 induction us generalizing l with
 | nil=>exact h
 | cons u us ih=>exact ih (l:=l.setIfInBounds u true) (Zaz h)
theorem Znp{us:List Nat}{l:Array Bool}{k:Nat}(hk:k ∈ us)(h:k<l.size):(Zbs us l).getD k false=true:=by
 induction us generalizing l with
 | nil=>cases hk
 | cons u us ih =>
  rcases List.mem_cons.1 hk with rfl|hk;exact Zch (us:=us) (Zhq h);exact ih (l:=l.setIfInBounds u true) hk (by simp;exact h)
theorem Zuq{Φ:Nat->Value->World->Prop}{l0:Array Bool}{i:Nat}{R:List Nat}{a0:Act}{w:World}{F:Nat}(hns:Region.noSelect ops=true)(hnd:Zcb (R.map (Zbl ops))=true)(hiR:i ∈ R) :
    ∀ (us done:List Nat) (l:Array Bool) (ν:Nat->Value),Ziy md ops l0 i us done=true->(∀ u ∈ us,u ∈ R)->(∀ u ∈ us,u ∉ L)->(∀ u ∈ us,l.getD u true=false)->l.size=ops.size->Zcb us=true ->
     (∀ p,l0.getD p false=true->l.getD p false=true)->l.getD i false=true->(∀ p ∈ Zbd md ops i,l.getD p false=true)->(∀ u ∈ done,l.getD u false=true)->S w ->
     Zsm P ops Φ w us (Zam (R.map (Zbl ops)) a0 ν) ->
     (∀ ν',(∀ k,(∀ u ∈ us,Zbl ops u≠k)->ν' k=ν k)->(∀ u ∈ us,Φ u (ν' (Zbl ops u)) w)->Zab P md ops (OnlyNormal Q) L S F (Zbs us l) (Zam (R.map (Zbl ops)) a0 ν') w) ->
     Zab P md ops (OnlyNormal Q) L S (us.length+F) l (Zam (R.map (Zbl ops)) a0 ν) w:=by
 intro us
 induction us with
 | nil =>
  intro done l ν _ _ _ _ _ _ _ _ _ _ _ _ h;rw[show ([]:List Nat).length+F=F by simp];exact h ν (λ_ _=>rfl) (λu hu=>by cases hu)
 | cons u us ih =>
  intro done l ν hat hR hL hun hsz hndu hl0 hi hp hdone hS htr h;simp only[Ziy,Qe,Qh]at hat;obtain⟨⟨⟨⟨⟨h1,h2⟩,h3⟩,h4⟩,h5⟩,h6⟩:=hat;obtain⟨o,v,ho,hy,hΦ,C⟩:=htr;obtain⟨n1,n2⟩:=Zb5 hndu;have U:u<ops.size:=(Array.getElem?_eq_some_iff.1 ho).1;have T:=hun u (Qc ..)
  have f:u ∈ Region.ready md ops l:=Zhz T ho (λp hp2=>by
   have h7:=h4 p hp2;simp only[QA,beq_iff_eq]at h7;rcases h7 with ((h7|h7)|h7)|h7;rw[h7];exact hi;exact hdone p (List.contains_iff_mem.1 h7);exact hl0 p h7;exact hp p (List.contains_iff_mem.1 h7))
  have I:o.dst=some (Zbl ops u):=by
   rw[ho]at h1;obtain⟨d,hd⟩:=Option.isSome_iff_exists.1 h1;unfold Zbl;rw[ho];simp only[hd,Qr]
  have J:Zbl ops u ∈ R.map (Zbl ops):=List.mem_map.2 ⟨u,hR u (Qc ..),rfl⟩;rw[QE,QI]
  refine Zkr ho (Region.noSelect_spec hns) (λ_ _ _ h=>(h:False).elim) (by
   cases hc:L.contains u with
   | false=>rfl
   | true=>exact absurd (List.contains_iff_mem.1 hc) (hL u (Qc ..))) _ l _ w (λj oj hoj hju hjl hnw=>?_) f hy (λ_=>hS) ?_
  ·have h7:=h5 j (List.mem_range.2 (Array.getElem?_eq_some_iff.1 hoj).1)
   simp only[QA,beq_iff_eq]at h7;rcases h7 with ((h7|h7)|h7)|h7;exact absurd h7 hju
   ·exfalso
    have h8:l.getD j false=true:=by
     rcases h7 with ((h7|h7)|h7)|h7;rw[h7];exact hi;exact hdone j (List.contains_iff_mem.1 h7);exact hl0 j h7;exact hp j (List.contains_iff_mem.1 h7)
    rw[Zez h8]at hjl;cases hjl
   ·exfalso
    have h8:=List.contains_iff_mem.1 h7;unfold Zbd at h8;rw[hoj]at h8;obtain⟨e,he,O⟩:=List.mem_map.1 h8;rw[QL]at he;exact hnw e (by simpa using he.1) he.2 O
   rw[ho,hoj]at h7;exact h7
  rw[I,Zlh J hnd];refine ih (u::done) (l.setIfInBounds u true) (upd ν (Zbl ops u) v) h6 (λx hx=>hR x (Qa _ hx)) (λx hx=>hL x (Qa _ hx)) (λx hx=>?_) (by simp;exact hsz) n2 (λp hp2=>Zaz (hl0 p hp2)) (Zaz hi) (λp hp2=>Zaz (hp p hp2)) (λx hx=>?_) hS ?_ (λν' k1 k2=>?_)
  ·rw[Go.getD_set_ne true (λe:u=x=>n1 (e▸hx))]
   exact hun x (Qa _ hx)
  ·rcases List.mem_cons.1 hx with rfl|hx
   exact Zhq Gk;exact Zaz (hdone x hx)
  ·rw[I,Zlh J hnd]at C
   exact C
  refine h ν' (λk hk=>?_) (λx hx=>?_)
  ·rw[k1 k (λx hx=>hk x (Qa _ hx))]
   simp only[upd,Gw (Qu (hk u (Qc ..)))]
  rcases List.mem_cons.1 hx with rfl|hx
  ·have h9:∀ y ∈ us,Zbl ops y≠Zbl ops x:=λy hy=>Zf5 hnd (hR y (Qa _ hy)) (hR x (Qc ..)) (λe=>n1 (e▸hy))
   rw[k1 _ h9];simp only[upd,if_true];exact hΦ
  exact k2 x hx
theorem Znw{us:List Nat}{l:Array Bool}{k:Nat}(h:(Zbs us l).getD k false=true):k ∈ us \/ l.getD k false=true:=by
 induction us generalizing l with
 | nil=>exact .inr h
 | cons u us ih =>
  rcases ih (l:=l.setIfInBounds u true) h with h1|h1;exact .inl (Qa _ h1);by_cases hk:u=k;exact .inl (hk▸Qc ..);rw[Go.getD_set_ne false hk]at h1;exact .inr h1
theorem Zhp{us:List Nat}{l:Array Bool}{k:Nat}(h:(Zbs us l).getD k true=false):l.getD k true=false:=by
 rw[Zcm]at h
 split at h
 cases h;exact h
theorem Zju{att:Nat->List Nat}:∀ (R:List Nat) (l0:Array Bool),Zv7 md ops att R l0=true->(∀ r ∈ R,l0.getD r true=false/\∃ o d,ops[r]?=some o/\o.dst=some d) /\
      ∀ l:Array Bool,l.size=l0.size->(∀ k,l0.getD k false=true->l.getD k false=true)->(∀ r ∈ R,l.getD r true=true->∀ u ∈ att r,l.getD u false=true)->(∃ r ∈ R,l.getD r true=false)->∃ r ∈ R,l.getD r true=false/\∀ p ∈ Zbd md ops r,l.getD p false=true
 | [],_,_=>⟨λr hr=>(by cases hr),λl _ _ _ ⟨r,hr,_⟩=>(by cases hr)⟩
 | r::R,l0,h=>by
  simp only[Zv7,Qe,Qj,Qh]at h;obtain⟨⟨⟨h1,h2⟩,h3⟩,h4⟩:=h;obtain⟨k1,k2⟩:=Zju R _ h4;refine⟨λx hx=>?_,λl hsz hl hat hu=>?_⟩
  ·rcases List.mem_cons.1 hx with rfl|hx
   ·refine⟨h1,?_⟩
    cases ho:ops[x]? with
    | none=>rw[ho]at h2;cases h2
    | some o =>
     rw[ho]at h2;obtain⟨d,hd⟩:=Option.isSome_iff_exists.1 h2;exact⟨o,d,rfl,hd⟩
   obtain⟨m1,m2⟩:=k1 x hx;exact⟨Zhp m1,m2⟩
  by_cases hr:l.getD r true=false;exact⟨r,Qc ..,hr,λp hp=>hl p (h3 p hp)⟩;have e:l.getD r true=true:=by simpa using hr
  have O:r<l0.size:=by
   rcases QD r l0.size with h'|h';exact h';rw[Qb,Qo h']at h1;cases h1
  have I:r<l.size:=Gk
  have J:l.getD r false=true:=by
   rw[Qb,Qf I]at e ⊢;exact e
  obtain⟨x,hx,C⟩:=k2 l (by rw[Zg2];exact hsz) (λk hk=>by
   rcases Znw hk with h5|h5
   ·rcases List.mem_cons.1 h5 with rfl|h5
    exact J;exact hat r (Qc ..) e k h5
   ·exact hl k h5) (λy hy=>hat y (Qa _ hy)) (by
   obtain⟨y,hy,f⟩:=hu;rcases List.mem_cons.1 hy with rfl|hy;exact absurd f hr;exact⟨y,hy,f⟩)
  exact⟨x,Qa _ hx,C⟩
theorem Zqa{R:List Nat}(hn:Zcb R=true):∀ (us:List Nat) (l:Array Bool),Zcb us=true->(∀ u ∈ us,u ∈ R)->(∀ u ∈ us,l.getD u true=false)->left R (Zbs us l)+us.length=left R l:=by
 intro us
 induction us with
 | nil=>intro l _ _ _;rfl
 | cons u us ih =>
  intro l h1 h2 h3;obtain⟨n1,n2⟩:=Zb5 h1;have h4:=Zmp hn (h2 u (Qc ..)) (h3 u (Qc ..))
  have h5:=ih (l.setIfInBounds u true) n2 (λx hx=>h2 x (Qa _ hx)) (λx hx=>by
   rw[Go.getD_set_ne true (λe:u=x=>n1 (e▸hx))];exact h3 x (Qa _ hx))
  show left R (Zbs us (l.setIfInBounds u true))+(us.length+1)=_;omega
theorem Zey:∀ {a b:List Nat},Zcb (a++b)=true->Zcb b=true
 | [],_,h=>h
 | _::a,_,h=>Zey (a:=a) (Zb5 h).2
theorem Zff:∀ {a b:List Nat},Zcb (a++b)=true->Zcb a=true
 | [],_,_=>rfl
 | x::a,b,h=>by
  obtain⟨h1,h2⟩:=Zb5 (x:=x) (l:=a++b) h;simp only[Zcb,Qe,Qj];refine⟨?_,Zff h2⟩;cases hc:a.contains x with
  | false=>rfl
  | true=>exact absurd (List.mem_append_left _ (List.contains_iff_mem.1 hc)) h1
theorem Zlt:∀ {a b:List Nat},Zcb (a++b)=true->∀ x,x ∈ a->x ∉ b
 | [],_,_,x,hx=>by cases hx
 | y::a,b,h,x,hx=>by
  obtain⟨h1,h2⟩:=Zb5 (x:=y) (l:=a++b) h;rcases List.mem_cons.1 hx with e|e;intro hb;exact h1 (List.mem_append_right _ (e▸hb));exact Zlt h2 x e
theorem Ztb{att:Nat->List Nat}:∀ {R:List Nat},Zcb (Zbj R att)=true->∀ r ∈ R,Zcb (r::att r)=true/\∀ r' ∈ R,r'≠r->∀ x ∈ r::att r,x ∉ r'::att r'
 | [],_,r,hr=>by cases hr
 | y::R,h,r,hr=>by
  have e:Zbj (y::R) att=(y::att y)++Zbj R att:=rfl;rw[e]at h;have h1:=Zff h;have h2:=Zey h;have h3:=Zlt h;have f:∀ z ∈ R,∀ x ∈ z::att z,x ∈ Zbj R att:=λz hz x hx=>List.mem_flatMap.2 ⟨z,hz,hx⟩;by_cases hry:r=y
  ·subst hry
   refine⟨h1,λr' hr' hne x hx hx2=>?_⟩;rcases List.mem_cons.1 hr' with h4|h4;exact hne h4;exact h3 x hx (f r' h4 x hx2)
  have o:r ∈ R:=by
    rcases List.mem_cons.1 hr with h4|h4;exact absurd h4 hry;exact h4
  obtain⟨k1,k2⟩:=Ztb h2 r o;refine⟨k1,λr' hr' hne x hx hx2=>?_⟩;by_cases hr'y:r'=y
  ·subst hr'y
   exact h3 x hx2 (f r o x hx)
  rcases List.mem_cons.1 hr' with h4|h4;exact hr'y h4;exact k2 r' h4 hne x hx hx2
theorem Z0y(R:List Nat)(att:Nat->List Nat)(D:List Nat)(hDR:∀ i ∈ D,i ∈ R)(Φ:Nat->Value->World->Prop){l0:Array Bool}{a0:Act}{w0:World}(hok:Zml md ops R att l0=true)(hL:∀ u ∈ Zbj R att,u ∉ L)
    (hst:∀ i ∈ Zbj R att,∀ v w w',Below w.heap.size w w'->Φ i v w->Φ i v w') (hS:∀ w',Below w0.heap.size w0 w'->S w') {F:Nat}
    (hop:∀ i ∈ R,∀ (ν:Nat->Value) (w:World),Below w0.heap.size w0 w->(∀ j ∈ Zbj R att,j ∈ Zbd md ops i->Φ j (ν (Zbl ops j)) w) ->
     wpOp P ops (OnlyNormal Q) i (λa' w'=>∃ v,a'=(Zam ((Zbj R att).map (Zbl ops)) a0 ν).put (some (Zbl ops i)) v/\Φ i v w'/\Below w.heap.size w w'/\Zsm P ops Φ w' (att i) a'/\(i ∈ D->∀ j ∈ D,∀ u,Φ j u w->v≠u)) (Zam ((Zbj R att).map (Zbl ops)) a0 ν) w)
    (hfin:∀ (ν:Nat->Value) (w:World),Below w0.heap.size w0 w->(∀ i ∈ Zbj R att,Φ i (ν (Zbl ops i)) w)->(∀ i ∈ D,∀ j ∈ D,i≠j->ν (Zbl ops i)≠ν (Zbl ops j))->Zab P md ops (OnlyNormal Q) L S F (Zbs (Zbj R att) l0) (Zam ((Zbj R att).map (Zbl ops)) a0 ν) w) :
    ∀ (n:Nat) (l:Array Bool) (ν:Nat->Value) (w:World),n=left (Zbj R att) l->l.size=l0.size->(∀ k,k ∉ Zbj R att->l.getD k true=l0.getD k true)->(∀ k,l0.getD k false=true->l.getD k false=true) ->
     (∀ r ∈ Zbj R att,l.getD r false=true->∀ p ∈ Zbd md ops r,l.getD p false=true) ->
     (∀ r ∈ R,∀ u ∈ att r,(l.getD r true=true->l.getD u false=true)/\(l.getD r true=false->l.getD u true=false))->Below w0.heap.size w0 w->(∀ r ∈ Zbj R att,l.getD r true=true->Φ r (ν (Zbl ops r)) w)->(∀ i ∈ D,∀ j ∈ D,i≠j->l.getD i true=true->l.getD j true=true->ν (Zbl ops i)≠ν (Zbl ops j)) ->
     Zab P md ops (OnlyNormal Q) L S (n+F) l (Zam ((Zbj R att).map (Zbl ops)) a0 ν) w:=by
 simp only[Zml,Qe,decide_eq_true_eq]at hok;obtain⟨⟨⟨⟨⟨c5,b3⟩,a4⟩,d3⟩,a1⟩,d0⟩:=hok;rw[Qh]at a1;obtain⟨t1,t2⟩:=Zju R l0 c5;have a2:=Zmw a4;have I:∀ r ∈ R,r ∈ Zbj R att:=λr hr=>List.mem_flatMap.2 ⟨r,hr,Qc ..⟩;have f:∀ r ∈ R,∀ u ∈ att r,u ∈ Zbj R att:=λr hr u hu=>List.mem_flatMap.2 ⟨r,hr,Qa _ hu⟩
 have a6:∀ r ∈ R,∀ u ∈ att r,r ∈ Zbd md ops u/\(∃ o,ops[u]?=some o):=λr hr=>by
  have:∀ (us done:List Nat),Ziy md ops l0 r us done=true->∀ u ∈ us,r ∈ Zbd md ops u/\(∃ o,ops[u]?=some o):=by
   intro us
   induction us with
   | nil=>intro _ _ u hu;cases hu
   | cons x us ih =>
    intro done h u hu;simp only[Ziy,Qe]at h;rcases List.mem_cons.1 hu with rfl|hu
    ·refine⟨List.contains_iff_mem.1 h.1.1.1.1.2,?_⟩
     cases ho:ops[u]? with
     | none=>have:=h.1.1.1.1.1;rw[ho]at this;cases this
     | some o=>exact⟨o,rfl⟩
    exact ih _ h.2 u hu
  exact this (att r) [] (a1 r hr)
 intro n
 induction n using Nat.strongRecOn with
 | _ n ih =>
  intro l ν w hn hsz hK hM hD hA hb hΦ hNE
  have V:∀ r ∈ Zbj R att,r<l.size:=λx hx=>by
   obtain⟨r,hr,U⟩:=List.mem_flatMap.1 hx;rcases List.mem_cons.1 U with rfl|U
   ·obtain⟨-,o,d,ho,-⟩:=t1 x hr
    have:=(Array.getElem?_eq_some_iff.1 ho).1;omega
   obtain⟨-,o,ho⟩:=a6 r hr x U;have:=(Array.getElem?_eq_some_iff.1 ho).1;omega
  have d4:∀ k,k<l.size->l.getD k true=true->l.getD k false=true:=λk hk h=>by
   rw[Qb,Qf hk]at h ⊢;exact h
  by_cases hex:∃ r ∈ R,l.getD r true=false
  ·obtain⟨r,hr,b5,c3⟩:=t2 l hsz hM (λr hr h u hu=>(hA r hr u hu).1 h) hex
   obtain⟨-,o,d,ho,-⟩:=t1 r hr;have a3:=Zhz (md:=md) b5 ho c3
   obtain⟨m,rfl⟩:∃ m,n=m+1:=by
    have:=Zmp a2 (I r hr) b5;exact⟨left (Zbj R att) (l.setIfInBounds r true),by omega⟩
   rw[QI];refine⟨λh0=>(by rw[h0]at a3;cases a3),λi hi=>?_⟩;obtain⟨a7,c6,Y⟩:=Zmv hi
   have T:i ∈ Zbj R att:=by
    apply Classical.byContradiction;intro b9;unfold Z0r at b3;rw[Qh]at b3;have h1:=b3 i (List.mem_range.2 c6);simp only[QA,List.any_eq_true,Qh,Qe,Qj]at h1;rcases h1 with ((h1|h1)|⟨p,hp,h2,h3⟩)|h1;exact b9 (List.contains_iff_mem.1 h1);rw[hK i b9,h1]at a7;cases a7
    ·have c8:p ∉ Zbj R att:=λh=>by rw[List.contains_iff_mem.2 h]at h2;cases h2
     have h4:=Y p hp;have h5:=Zez h4;rw[hK p c8]at h5
     have d7:p<l.size:=by
      rcases QD p l.size with h'|h';exact h';rw[Qb,Qo h']at h4;cases h4
     rw[Qb,Qf Gk]at h5 h3;simp only[Qr]at h5 h3;rw[h5]at h3;cases h3
    have h2:=Zts (md:=md) (ops:=ops) (l:=l) (R:=Zbj R att) hD (Zbj R att).reverse (Zbd md ops i) (λr hr=>List.mem_reverse.1 hr) Y;have h3:=Zez (h2 r (List.contains_iff_mem.1 (h1 r hr)));rw[b5]at h3;cases h3
   have J:i ∈ R:=by
    obtain⟨r',O,hx⟩:=List.mem_flatMap.1 T;rcases List.mem_cons.1 hx with rfl|hx;exact O;exfalso;have h1:=Zez (Y r' (a6 r' O i hx).1);have h2:=Zez ((hA r' O i hx).1 h1);rw[a7]at h2;cases h2
   have c7:Zbl ops i ∈ (Zbj R att).map (Zbl ops):=List.mem_map.2 ⟨i,T,rfl⟩;obtain⟨c1,b1⟩:=Ztb a2 i J;obtain⟨ni,nus⟩:=Zb5 c1;refine wpOp_mono (λa' w' h=>?_) (hop i J ν w hb λj hj hp=>hΦ j hj (Zez (Y j hp)));obtain⟨v,rfl,hv,c2,b8,b7⟩:=h;have b6:=Gs hb c2;refine⟨λ_=>hS _ b6,?_⟩;rw[Zlh c7 a4]at b8 ⊢;have a9:(l.setIfInBounds i true).getD i false=true:=Zhq (V i T)
   have b2:∀ u ∈ att i,(l.setIfInBounds i true).getD u true=false:=λu hu=>by
    rw[Go.getD_set_ne true (λe:i=u=>ni (e▸hu))];exact(hA i J u hu).2 a7
   have d5:=Zmp a2 T a7;have d6:=Zqa a2 (att i) (l.setIfInBounds i true) nus (f i J) b2;have hm:m=(att i).length+left (Zbj R att) (Zbs (att i) (l.setIfInBounds i true)):=Gk;rw[hm,Nat.add_assoc];refine Zuq (R:=Zbj R att) d0 a4 T (att i) [] (l.setIfInBounds i true) _ (a1 i J) (f i J) (λu hu=>hL u (f i J u hu)) b2 Gg nus (λp hp=>Zaz (hM p hp)) a9 (λp hp=>Zaz (Y p hp)) (λu hu=>by cases hu) (hS _ b6) b8 (λν' k1 k2=>?_)
   have hνi:ν' (Zbl ops i)=v:=by
    rw[k1 _ (λu hu=>Zf5 a4 (f i J u hu) T (λe=>ni (e▸hu)))];simp only[upd,if_true]
   have hνo:∀ x ∈ Zbj R att,x≠i->x ∉ att i->ν' (Zbl ops x)=ν (Zbl ops x):=λx hx h1 h2=>by
    rw[k1 _ (λu hu=>Zf5 a4 (f i J u hu) hx (λe=>h2 (e▸hu)))];simp only[upd,Gw (Zf5 a4 hx T h1)]
   refine ih _ Gk (Zbs (att i) (l.setIfInBounds i true)) ν' w' rfl (by rw[Zg2];simp;exact hsz) (λk hk=>?_) (λk hk=>Zch (Zaz (hM k hk))) (λx hx hxt p hp=>?_) (λr' O u hu=>?_) b6 (λx hx hxt=>?_) (λa ha b hb' hab hat hbt=>?_)
   ·rw[Zcm,Gw (λh=>hk (f i J k h)),Go.getD_set_ne true (λe:i=k=>hk (e▸T))]
    exact hK k hk
   ·rcases Znw hxt with h1|h1
    ·-- an operation of the train
     have h2:∀ (us done:List Nat),Ziy md ops l0 i us done=true->(∀ u ∈ done,(Zbs (att i) (l.setIfInBounds i true)).getD u false=true)->(∀ u ∈ us,u ∈ att i)->∀ u ∈ us,∀ p ∈ Zbd md ops u,(Zbs (att i) (l.setIfInBounds i true)).getD p false=true:=by
      intro us
      induction us with
      | nil=>intro _ _ _ _ u hu;cases hu
      | cons y us ihu =>
       intro done h hd C u hu p hp;simp only[Ziy,Qe,Qh]at h;rcases List.mem_cons.1 hu with rfl|hu
       ·have h7:=h.1.1.2 p hp
        simp only[QA,beq_iff_eq]at h7;rcases h7 with ((h7|h7)|h7)|h7;rw[h7];exact Zch a9;exact hd p (List.contains_iff_mem.1 h7);exact Zch (Zaz (hM p h7));exact Zch (Zaz (Y p (List.contains_iff_mem.1 h7)))
       refine ihu (y::done) h.2 (λz hz=>?_) (λz hz=>C z (Qa _ hz)) u hu p hp;rcases List.mem_cons.1 hz with rfl|hz;exact Znp (C z (Qc ..)) (by simp;exact V z (f i J z (C z (Qc ..))));exact hd z hz
     exact h2 (att i) [] (a1 i J) (λu hu=>by cases hu) (λu hu=>hu) x h1 p hp
    by_cases hxi:i=x;subst hxi;exact Zch (Zaz (Y p hp));rw[Go.getD_set_ne false hxi]at h1;exact Zch (Zaz (hD x hx h1 p hp))
   ·by_cases hri:r'=i
    ·subst hri
     refine⟨λ_=>Znp hu (by simp;exact V u (f r' O u hu)),λh=>?_⟩;have h1:=Zhp h;rw[Zez a9]at h1;cases h1
    have b4:=b1 r' O hri;have c9:u ∉ att i:=λh=>b4 u (Qa _ h) (Qa _ hu);have c4:i≠u:=λh=>b4 i (Qc ..) (h▸Qa _ hu);have b0:r' ∉ att i:=λh=>b4 r' (Qa _ h) (Qc ..);refine⟨λh=>?_,λh=>?_⟩
    ·rw[Zcm,Gw b0,Go.getD_set_ne true (Qu hri)]at h
     exact Zch (Zaz ((hA r' O u hu).1 h))
    rw[Zcm,Gw b0,Go.getD_set_ne true (Qu hri)]at h;rw[Zcm,Gw c9,Go.getD_set_ne true c4];exact(hA r' O u hu).2 h
   ·by_cases hxi:x=i
    subst hxi;rw[hνi];exact hv;by_cases hxa:x ∈ att i;exact k2 x hxa;rw[hνo x hx hxi hxa];rw[Zcm,Gw hxa,Go.getD_set_ne true (Qu hxi)]at hxt;exact hst x hx _ _ _ c2 (hΦ x hx hxt)
   have c0:∀ x ∈ D,x ∉ att i:=λx hx h=>by
     by_cases hxi:x=i;exact ni (hxi▸h);exact b1 x (hDR x hx) hxi x (Qa _ h) (Qc ..)
   have a8:∀ x ∈ D,x≠i->(Zbs (att i) (l.setIfInBounds i true)).getD x true=true->ν' (Zbl ops x)=ν (Zbl ops x)/\l.getD x true=true:=λx hx hxi h=>by
    rw[Zcm,Gw (c0 x hx),Go.getD_set_ne true (Qu hxi)]at h;exact⟨hνo x (I x (hDR x hx)) hxi (c0 x hx),h⟩
   by_cases hai:a=i
   ·have a5:b≠i:=λh=>hab (hai.trans h.symm)
    obtain⟨e1,e2⟩:=a8 b hb' a5 hbt;rw[hai,hνi,e1];exact b7 (hai▸ha) b hb' _ (hΦ b (I b (hDR b hb')) e2)
   obtain⟨e1,e2⟩:=a8 a ha hai hat;by_cases a5:b=i
   ·rw[a5,hνi,e1]
    exact λh=>b7 (a5▸hb') a ha _ (hΦ a (I a (hDR a ha)) e2) h.symm
   obtain⟨e3,e4⟩:=a8 b hb' a5 hbt;rw[e1,e3];exact hNE a ha b hb' hab e2 e4
  have C:∀ x ∈ Zbj R att,l.getD x true=true:=λx hx=>by
    obtain⟨r,hr,U⟩:=List.mem_flatMap.1 hx
    have h1:l.getD r true=true:=by
     cases h:l.getD r true with
     | true=>rfl
     | false=>exact absurd ⟨r,hr,h⟩ hex
    rcases List.mem_cons.1 U with rfl|U;exact h1;exact Zez ((hA r hr x U).1 h1)
  have h0:left (Zbj R att) l=0:=by
   unfold left;rw[List.length_eq_zero_iff,List.filter_eq_nil_iff];intro r hr;rw[C r hr];simp
  have:l=Zbs (Zbj R att) l0:=by
   refine Zt8 (by rw[Zg2];exact hsz) λk=>?_;rw[Zcm];by_cases hk:k ∈ Zbj R att;rw[Gx hk];exact C k hk;rw[Gw hk];exact hK k hk
  subst this;rw[hn,h0,Nat.zero_add];exact hfin ν w hb (λi hi=>hΦ i hi (C i hi)) (λi hi j hj hij=>hNE i hi j hj hij (C i (I i (hDR i hi))) (C j (I j (hDR j hj))))
theorem Zsw(DP:List (Nat × Nat))(RP:List (Nat × Nat))(att:Nat->List Nat)(FP:List (Nat × Nat))(Φ:Nat->Value->World->Prop)(F:Nat){l0:Array Bool}{a0:Act}{w0:World}
    (hok:(Zml md ops (RP.map (·.1)) att l0 && (Zbj (RP.map (·.1)) att == FP.map (·.1)) && FP.all (λp=>Zbl ops p.1 == p.2) && RP.all (λp=>Zbl ops p.1 == p.2) && FP.all (λp=>!L.contains p.1) && DP.all (λp=>RP.contains p))=true)
    (hst:∀ p ∈ FP,∀ v w w',Below w.heap.size w w'->Φ p.1 v w->Φ p.1 v w') (hS:∀ w',Below w0.heap.size w0 w'->S w')
    (hop:∀ p ∈ RP,∀ (ν:Nat->Value) (w:World),Below w0.heap.size w0 w->(∀ q ∈ FP,(Zbd md ops p.1).contains q.1=true->Φ q.1 (ν q.2) w) ->
     wpOp P ops (OnlyNormal Q) p.1 (λa' w'=>∃ v,a'=(Zam (FP.map (·.2)) a0 ν).put (some p.2) v/\Φ p.1 v w'/\Below w.heap.size w w'/\Zsm P ops Φ w' (att p.1) a'/\(p ∈ DP->∀ q ∈ DP,∀ u,Φ q.1 u w->v≠u)) (Zam (FP.map (·.2)) a0 ν) w)
    (hfin:∀ (ν:Nat->Value) (w:World),Below w0.heap.size w0 w->(∀ p ∈ FP,Φ p.1 (ν p.2) w)->(∀ p ∈ DP,∀ q ∈ DP,p≠q->ν p.2≠ν q.2)->Zab P md ops (OnlyNormal Q) L S F (Zbs (FP.map (·.1)) l0) (Zam (FP.map (·.2)) a0 ν) w) :
    Zab P md ops (OnlyNormal Q) L S (FP.length+F) l0 a0 w0:=by
 simp only[Qe,beq_iff_eq]at hok;obtain⟨⟨⟨⟨⟨h1,h2⟩,h3⟩,h4⟩,h5⟩,h6⟩:=hok;rw[Qh]at h6;have hD:=Ztc (ops:=ops) FP h3;rw[<- h2]at hD;rw[Qh]at h3 h4 h5
 have I:∀ i,i ∈ Zbj (RP.map (·.1)) att->∃ p ∈ FP,p.1=i:=λi hi=>by
  rw[h2]at hi;exact List.mem_map.1 hi
 have V:=h1;simp only[Zml,Qe,decide_eq_true_eq]at h1;obtain⟨⟨⟨⟨⟨Y,-⟩,a3⟩,a2⟩,C⟩,-⟩:=h1;obtain⟨t1,-⟩:=Zju _ l0 Y
 have f:∀ i ∈ Zbj (RP.map (·.1)) att,l0.getD i true=false:=λx hx=>by
  obtain⟨r,hr,J⟩:=List.mem_flatMap.1 hx;rcases List.mem_cons.1 J with rfl|J;exact(t1 x hr).1;rw[Qh]at C
  have:∀ (us done:List Nat),Ziy md ops l0 r us done=true->∀ u ∈ us,l0.getD u true=false:=by
   intro us
   induction us with
   | nil=>intro _ _ u hu;cases hu
   | cons y us ih =>
    intro done h u hu;simp only[Ziy,Qe,Qj]at h;rcases List.mem_cons.1 hu with rfl|hu;exact h.1.1.1.2;exact ih _ h.2 u hu
  exact this _ _ (C r hr) x J
 have U:left (Zbj (RP.map (·.1)) att) l0=FP.length:=by
  unfold left;rw[List.filter_eq_self.2 (λr hr=>by rw[f r hr];rfl),h2,Qn]
 have h:=Z0y (P:=P) (ops:=ops) (Q:=Q) (md:=md) (L:=L) (S:=S) (RP.map (·.1)) att (DP.map (·.1)) (λi hi=>by
  obtain⟨p,hp,rfl⟩:=List.mem_map.1 hi;exact List.mem_map.2 ⟨p,List.contains_iff_mem.1 (h6 p hp),rfl⟩) Φ (F:=F) (a0:=a0) (w0:=w0) V (λu hu=>by
  obtain⟨p,hp,rfl⟩:=I u hu;have:=h5 p hp;intro hc;rw[List.contains_iff_mem.2 hc]at this;cases this) (λi hi=>by
  obtain⟨p,hp,rfl⟩:=I i hi;exact hst p hp) hS (λi hi ν w hb hP=>by
  obtain⟨p,hp,rfl⟩:=List.mem_map.1 hi
  have:=hop p hp ν w hb (λq hq hc=>by
   have o:=hP q.1 (by rw[h2];exact List.mem_map.2 ⟨q,hq,rfl⟩) (List.contains_iff_mem.1 hc);have e:=h3 q hq;simp only[beq_iff_eq]at e;rw[e]at o;exact o)
  have e:=h4 p hp;simp only[beq_iff_eq]at e;rw[hD,e];refine wpOp_mono (λa' w' h=>?_) this;obtain⟨v,k1,k2,k3,k4,k5⟩:=h;refine⟨v,k1,k2,k3,k4,λhi j hj u hu=>?_⟩;obtain⟨p',T,O⟩:=List.mem_map.1 hi;obtain⟨q',a1,rfl⟩:=List.mem_map.1 hj;have e1:=h4 p' (List.contains_iff_mem.1 (h6 p' T));simp only[beq_iff_eq]at e1;have:p'=p:=Prod.ext O (by rw[<- e1,<- e,O]);exact k5 (this▸T) q' a1 u hu) (λν w hb hf hne=>by
  rw[hD,h2]
  exact hfin ν w hb (λp hp=>by
   have o:=hf p.1 (by rw[h2];exact List.mem_map.2 ⟨p,hp,rfl⟩);have e:=h3 p hp;simp only[beq_iff_eq]at e;rw[e]at o;exact o) (λp hp q hq hpq=>by
   have e1:=h4 p (List.contains_iff_mem.1 (h6 p hp));have e2:=h4 q (List.contains_iff_mem.1 (h6 q hq));simp only[beq_iff_eq]at e1 e2;have:=hne p.1 (List.mem_map.2 ⟨p,hp,rfl⟩) q.1 (List.mem_map.2 ⟨q,hq,rfl⟩) (λh=>hpq (Prod.ext h (by rw[<- e1,<- e2,h])));rw[e1,e2]at this;exact this)) FP.length l0 (λd=>a0.tmps.getD d undef) w0 U.symm rfl (λ_ _=>rfl) (λ_ h=>h)
  (λr hr h=>by have h1:=Zez h;rw[f r hr]at h1;cases h1)
  (λr hr u hu=>⟨λh=>(by rw[f r (List.mem_flatMap.2 ⟨r,hr,Qc ..⟩)]at h;cases h),λ_=>f u (List.mem_flatMap.2 ⟨r,hr,Qa _ hu⟩)⟩)
  (QC _ _) (λr hr h=>by rw[f r hr]at h;cases h)
  (λi hi j hj _ h _=>by
   obtain⟨p,hp,rfl⟩:=List.mem_map.1 hi;rw[f p.1 (List.mem_flatMap.2 ⟨p.1,List.mem_map.2 ⟨p,List.contains_iff_mem.1 (h6 p hp),rfl⟩,Qc ..⟩)]at h;cases h)
 rw[Ztx]at h;exact h
theorem Za1(RP:List (Nat × Nat))(att:Nat->List Nat)(FP:List (Nat × Nat))(Φ:Nat->Value->World->Prop)(F:Nat){l0:Array Bool}{a0:Act}{w0:World}
    (hok:(Zml md ops (RP.map (·.1)) att l0 && (Zbj (RP.map (·.1)) att == FP.map (·.1)) && FP.all (λp=>Zbl ops p.1 == p.2) && RP.all (λp=>Zbl ops p.1 == p.2) && FP.all (λp=>!L.contains p.1))=true)
    (hst:∀ p ∈ FP,∀ v w w',Below w.heap.size w w'->Φ p.1 v w->Φ p.1 v w') (hS:∀ w',Below w0.heap.size w0 w'->S w')
    (hop:∀ p ∈ RP,∀ (ν:Nat->Value) (w:World),Below w0.heap.size w0 w->(∀ q ∈ FP,(Zbd md ops p.1).contains q.1=true->Φ q.1 (ν q.2) w) ->
     wpOp P ops (OnlyNormal Q) p.1 (λa' w'=>∃ v,a'=(Zam (FP.map (·.2)) a0 ν).put (some p.2) v/\Φ p.1 v w'/\Below w.heap.size w w'/\Zsm P ops Φ w' (att p.1) a') (Zam (FP.map (·.2)) a0 ν) w)
    (hfin:∀ (ν:Nat->Value) (w:World),Below w0.heap.size w0 w->(∀ p ∈ FP,Φ p.1 (ν p.2) w)->Zab P md ops (OnlyNormal Q) L S F (Zbs (FP.map (·.1)) l0) (Zam (FP.map (·.2)) a0 ν) w) :
    Zab P md ops (OnlyNormal Q) L S (FP.length+F) l0 a0 w0:=
 Zsw [] RP att FP Φ F (by rw[hok];rfl) hst hS (λp hp ν w hb hP=>wpOp_mono (λa' w' h=>by
  obtain⟨v,k1,k2,k3,k4⟩:=h;exact⟨v,k1,k2,k3,k4,λh=>by cases h⟩) (hop p hp ν w hb hP)) (λν w hb hf _=>hfin ν w hb hf)
end
def Zav(B0:Nat)(q:Rat)(ca mv x0 x1 al as_:Nat)(i:Nat)(v:Value)(w:World):Prop:=
 if i=ca \/ i=mv then ∃ na A n c nb B m d,v=.tuple #[.agg #[.bool na,.slice A n c,.bool nb,.slice B m d],.int .i64 0]/\Fr w na A n c nb B m d q
 else if i=x0 then ∃ na A n c nb B m d,v=.agg #[.bool na,.slice A n c,.bool nb,.slice B m d]/\Fr w na A n c nb B m d q
 else if i=x1 \/ i=as_ then v=.int .i64 0
 else if i=al then ∃ g,v=.pointer (some ⟨g,0,none⟩)/\B0<=g/\Blk w g 41 #[.bool false,.slice none 0 0,.bool false,.slice none 0 0]
 else True
theorem Fc{G:Prop}(h:G:=by
 obtain⟨na,A,n,c,nb,B,m,d,e,hf⟩:=h;exact⟨na,A,n,c,nb,B,m,d,e,hf.below hb⟩):G:=h
theorem Zhm{B0:Nat}{q:Rat}{ca mv x0 x1 al as_ i:Nat}{v:Value}{w w':World}(hb:Below w.heap.size w w')(h:Zav B0 q ca mv x0 x1 al as_ i v w):Zav B0 q ca mv x0 x1 al as_ i v w':=by
 unfold Zav at h ⊢
 split at h
 ·rename_i h1;rw[Gx h1]
  exact Fc
 rename_i h1;rw[Gw h1]
 split at h
 ·rename_i h2;rw[Gx h2]
  exact Fc
 rename_i h2;rw[Gw h2]
 split at h
 rename_i h3;rw[Gx h3];exact h;rename_i h3;rw[Gw h3]
 split at h
 ·rename_i h4;rw[Gx h4]
  obtain⟨g,e,h5,h6⟩:=h;exact⟨g,e,h5,Zc hb h6⟩
 rename_i h4;rw[Gw h4];trivial
theorem FOwn.keptG{t:TypeId}{w w':World}{g:Nat}{qs:List Rat}{G:Nat->Prop}(h:FOwn t w g qs)(hk:Kept G w w')(hg:¬ G g)(hG:∀ k,G k->∃ t cs,Blk w k t cs/\NoLimb cs):FOwn t w' g qs:=by
 obtain⟨es,zs,h1,h2,h3⟩:=h;exact⟨es,zs,hk.blk h1 hg,λe he=>⟨hk.wd (h2 e he).1 hG,hk.wd (h2 e he).2 hG⟩,h3⟩
theorem Fr.zero_iff{w:World}{na:Bool}{A:Option Addr}{n c:Nat}{nb:Bool}{B:Option Addr}{m d:Nat}{r:Rat}(h:Fr w na A n c nb B m d r):n=0 ↔ r=0:=by
 have h1:=h.1.lim.len;have h2:=length_digits_pos (v:=r.num.natAbs);constructor
 ·intro hn
  have:r.num=0:=Gk;exact Rat.num_eq_zero.1 this
 rintro rfl;have:(0:Rat).num.natAbs=0:=rfl;omega
attribute [local go_sem] Zg
theorem Zkn(L:List RF)(i j:Nat):Zh (L.map RF.q) i j=(Zdf L i)[j]?.getD 0:=by unfold Zh Zdf;rw[Qd]
theorem Zb0{α:Type}{L:List α}{i:Nat}(h:i<L.length):∃ r,L[i]?=some r:=⟨_,Qg h⟩
theorem Z1b{α β:Type}{f:α->β}{L M:List α}(h:L.map f=M.map f){i:Nat}{r s:α}(hr:L[i]?=some r)(hs:M[i]?=some s):f r=f s:=by
 have h1:(L.map f)[i]?=some (f r):=by rw[Qd,hr];rfl
 have h2:(M.map f)[i]?=some (f s):=by rw[Qd,hs];rfl
 rw[h,h2]at h1;exact(Option.some.inj h1).symm
theorem Ze1{α β:Type}{f:α->β}{L:List α}{i:Nat}{r s:α}(hr:L[i]?=some r)(h:f s=f r):(L.set i s).map f=L.map f:=by
 rw[QH];apply Qx;intro j;rw[Qy]
 split
 ·rename_i hij
  subst hij;have hi:=(List.getElem?_eq_some_iff.1 hr).1;rw[Gx (by simpa using hi),Qd,hr,h];rfl
 rfl
theorem Ih{G:Prop}(h:G:=by
 rw[List.getElem?_set];by_cases h:i=j;subst h;rw[Gx rfl,Gx hi,Gx rfl];rfl;rw[Gw h,Gw (Ne.symm h)]):G:=h
theorem Zsy{L:List RF}{i j:Nat}{r:RF}(hi:i<L.length):Zdf (L.set i r) j=if j=i then r.q else Zdf L j:=by
 unfold Zdf;exact Ih
def ClrTo(L L2:List RF)(r col i:Nat):Prop:=∀ j,j<L.length->Zdf L2 j=if j<=r \/ i<=j then Zdf L j else Zok (Zdf L r) (Zdf L j) col
theorem FH{G:Prop}(h:G:=by
 by_cases h1:j<=r \/ i<=j;rw[Gx h1,Gx Gk];rw[Gw h1,Gw Gk]):G:=h
theorem CG{G:Prop}(h:G:=by
 by_cases iD:j=i;subst iD;rw[Gx rfl,hx,Gw Gk];rw[Gw iD];exact FH):G:=h
theorem ClrTo.step{L L2:List RF}{r col i:Nat}{x:RF}(h:ClrTo L L2 r col i)(hl:L2.length=L.length)(hi:i<L.length)(hri:r<i)(hx:x.q=Zok (Zdf L r) (Zdf L i) col):ClrTo L (L2.set i x) r col (i+1):=by
 intro j hj;rw[Zsy Gk,h j hj];exact CG
theorem Cl{G:Prop}(h:G:=by
 by_cases h1:i<=r;rw[Gx (Or.inl h1),Gx h1];rw[Gw Gk,Gw h1]):G:=h
theorem ClrTo.done{L L2:List RF}{r col:Nat}(h:ClrTo L L2 r col L.length)(hl:L2.length=L.length):L2.map RF.q=Zbq (L.map RF.q) r col:=by
 refine Z1c (by rw[Ze7];simpa using hl) (λi hi=>?_);rw[Ze7,Qn]at hi;rw[h i hi,Zjg (by simpa using hi),<- Zn3,<- Zn3];exact Cl
theorem Zgw(na:Bool)(a:List Nat):Zge na na a a=true:=by
 unfold Zge
 have:Zcn a a=0:=by
  unfold Zcn;simp
 rw[this];simp
theorem It{G:Prop}(h:G:=by
 rintro e w2 ⟨rfl,aa⟩;have ax:Below w.heap.size w w2:=Gs ae aa;go_wp2_with fail;go_ret;exact⟨by simp,ax⟩):G:=h
theorem Zmc(na nb:Bool)(A B A' B':Option Addr)(n c m d n' c' m' d':Nat)(la lb:List Nat)(w:World)(ha:Lim w A n c la)(hb:Lim w B m d lb)(u:Lim w A' n' c' la)(o:Lim w B' m' d' lb) :
    Calls Tryz.prog 21 #[.agg #[.bool na,.slice A n c,.bool nb,.slice B m d],.agg #[.bool na,.slice A' n' c',.bool nb,.slice B' m' d']] w λe w'=>e=.returned (.bool true)/\Below w.heap.size w w':=by
 obtain⟨W0,y,f,⟨q0,q1⟩,s0⟩:=Zdb w 41 #[.bool na,.slice A n c,.bool nb,.slice B m d] 41 #[.bool na,.slice A' n' c',.bool nb,.slice B' m' d'];replace ha:=Zb (ha.below f);replace hb:=Zb (hb.below f);replace u:=Zb (u.below f);replace o:=Zb (o.below f);obtain⟨a0,a1,a2,a3,-⟩:=q0.four;obtain⟨b0,b1,b2,b3,-⟩:=q1.four;have hq:=Zb (Qz q0 q1);clear q0 q1;go_in;go_wp2_with fail;refine(Zdx na na A A' n c n' c' _ _ W0 ha.out u.out).mono ?_;rw[Zgw];rintro e w1 ⟨rfl,h⟩;have ae:Below w.heap.size w w1:=Gs f h;obtain⟨q0,q1⟩:=hq.out;replace q0:=Zc h q0;replace q1:=Zc h q1;clear y a0 a1 a2 a3 b0 b1 b2 b3 hq f;obtain⟨a0,a1,a2,a3,-⟩:=q0.four;obtain⟨b0,b1,b2,b3,-⟩:=q1.four;clear q0 q1;go_wp2_with fail;refine(Zdx nb nb B B' m d m' d' _ _ w1 (hb.out.below h) (o.out.below h)).mono ?_;rw[Zgw];exact It
structure DF where
 na:Bool
 la:List Nat
 nb:Bool
 lb:List Nat
def XL(w:World)(A:Option Addr)(n c:Nat)(ds:List DF):Prop:=
 ds.length=n/\n<=c/\c<=maxLen/\∀ (k:Nat) (d:DF),ds[k]?=some d->∃ g o A1 n1 c1 B1 m1 d1,A=some ⟨g,o,none⟩/\At4 w g (o+k*4) d.na A1 n1 c1 d.nb B1 m1 d1/\Lim w A1 n1 c1 d.la/\Lim w B1 m1 d1 d.lb
def XM(w:World)(A:Option Addr)(n c:Nat)(D:List (List DF)):Prop:=
 D.length=n/\n<=c/\c<=maxLen/\∀ (k:Nat) (ds:List DF),D[k]?=some ds->∃ g o A1 n1 c1,A=some ⟨g,o,none⟩/\w.cell? ⟨g,o+k,none⟩=some (.slice A1 n1 c1)/\XL w A1 n1 c1 ds
section
variable{w w':World}{A:Option Addr}{n c:Nat}{ds:List DF}{D:List (List DF)}
theorem XL.below(h:XL w A n c ds)(hb:Below w.heap.size w w'):XL w' A n c ds:=by
 obtain⟨h1,h2,h3,h4⟩:=h;refine⟨h1,h2,h3,λk d hd=>?_⟩;obtain⟨g,o,A1,n1,c1,B1,m1,d1,e,a,b,b'⟩:=h4 k d hd;exact⟨g,o,A1,n1,c1,B1,m1,d1,e,a.below hb,b.below hb,b'.below hb⟩
theorem XM.below(h:XM w A n c D)(hb:Below w.heap.size w w'):XM w' A n c D:=by
 obtain⟨h1,h2,h3,h4⟩:=h;refine⟨h1,h2,h3,λk d hd=>?_⟩;obtain⟨g,o,A1,n1,c1,e,a,b⟩:=h4 k d hd;exact⟨g,o,A1,n1,c1,e,Za hb a,b.below hb⟩
def dfQ(q:Rat):DF:=⟨decide (q.num<0),digits q.num.natAbs,false,digits q.den⟩
theorem FL.xl{qs:List Rat}(h:FL w A n c qs):XL w A n c (qs.map dfQ):=by
 have hl:=h.len;refine⟨by rw[Qn,hl],h.cap.1,h.cap.2,λk d hd=>?_⟩;rw[Qd]at hd;obtain⟨q,hq,rfl⟩:=Option.map_eq_some_iff.1 hd;have hk:k<n:=by have:=(List.getElem?_eq_some_iff.1 hq).1;omega
 obtain⟨g,o,na,A1,n1,c1,nb,B,m,d,e1,e2,e3⟩:=h.at_ hk;rw[hq,Qr]at e3;have h1:=e3.1.1;have h2:=e3.2.1;have h3:=e3.2.2.2;rw[Qi]at h3;have h4:nb=false:=by rw[h2];exact Gu Gk
 subst h1 h4;exact⟨g,o,_,_,_,_,_,_,e1,e2,e3.1.2.2,h3⟩
theorem MFL.xm{Q:List (List Rat)}(h:MFL w A n c Q):XM w A n c (Q.map λr=>r.map dfQ):=by
 refine⟨by rw[Qn,h.1],h.2.1,h.2.2.1,λk d hd=>?_⟩;rw[Qd]at hd;obtain⟨r,hr,rfl⟩:=Option.map_eq_some_iff.1 hd;have hk:k<n:=by have:=(List.getElem?_eq_some_iff.1 hr).1;rw[h.1]at this;exact this
 obtain⟨g,o,A1,n1,c1,e1,e3,e4⟩:=h.at_ hk;rw[hr,Qr]at e4;exact⟨g,o,_,_,_,e1,e3,e4.xl⟩
end
theorem Id{G:Prop}(h:G:=by
 obtain rfl:i=n:=Gk;have t1:decide ((i:Int)<(i:Int))=false:=Gh;go_wp2_with fail;go_ret;exact⟨rfl,hB⟩):G:=h
theorem Zql(A B:Option Addr)(n c d:Nat)(ds:List DF)(w:World)(ha:XL w A n c ds)(hb:XL w B n d ds) :
    Calls Tryz.prog 52 #[.slice A n c,.slice B n d] w λe w'=>e=.returned (.bool true)/\Below w.heap.size w w':=by
 have hmx:=Gt;have hl:=Zb ha.1;have hc:=ha.2.1;have a0:=ha.2.2.1;have hd:=hb.2.1;have a1:=hb.2.2.1;unfold maxLen at a0 a1;replace ha:=Zb ha;replace hb:=Zb hb;have t0:(((n:Int)) != (n:Int))=false:=Gh
 go_in;go_wp2_with fail
 go_loopg [5] n (λk iv wr=>∃ i:Nat,i+k=n/\iv=.int .i64 i/\Below w.heap.size w wr)
 case atStart=>exact⟨0,by omega,rfl,QC _ _⟩
 case round =>
  obtain⟨i,a5,rfl,hB⟩:=hrel;cases gk with
  | zero =>
   exact Id
  | succ k' =>
   obtain rfl:k'=n-(i+1):=Gk;have a2:i<n:=Gk;have t1:decide ((i:Int)<(n:Int))=true:=Gv Gk;have bi:(i:Int)<(n:Int):=Gk;obtain⟨x,hx⟩:=Zb0 (L:=ds) (i:=i) (by rw[hl.out];exact a2);obtain⟨g,o,A1,n1,c1,B1,m1,d1,rfl,⟨r0,r1,r2,r3⟩,l1,l2⟩:=(ha.out.below hB).2.2.2 i x hx;obtain⟨g',o',Y,V,T,U,O,J,rfl,⟨s0,s1,s2,s3⟩,y,I⟩:=(hb.out.below hB).2.2.2 i x hx;replace l1:=Zb l1;replace l2:=Zb l2;replace y:=Zb y;replace I:=Zb I;go_wp2_with fail;obtain⟨X0,u⟩:=Gz wr.drew;have h:Below wr.heap.size wr X0:=by rw[<- u];exact Zf (QC _ _) 1
   have f:Hid (∀ wx,Below wr.heap.size wr wx->wx.cell? ⟨g,o+i*4,none⟩=some (.bool x.na)/\wx.cell? ⟨g,o+i*4+1,none⟩=some (.slice A1 n1 c1)/\wx.cell? ⟨g,o+i*4+2,none⟩=some (.bool x.nb)/\wx.cell? ⟨g,o+i*4+3,none⟩=some (.slice B1 m1 d1)/\wx.cell? ⟨g',o'+i*4,none⟩=some (.bool x.na)/\wx.cell? ⟨g',o'+i*4+1,none⟩=some (.slice Y V T)/\wx.cell? ⟨g',o'+i*4+2,none⟩=some (.bool x.nb)/\wx.cell? ⟨g',o'+i*4+3,none⟩=some (.slice U O J)):=Zb (λwx hbx=>⟨Za hbx r0,Za hbx r1,Za hbx r2,Za hbx r3,Za hbx s0,Za hbx s1,Za hbx s2,Za hbx s3⟩);refine wp_heldS [] hmx f (by rw[u];exact h) (λhxs=>?_);rw[u];refine Zj9 8 [0,1,2,3,4,5,6,7] rfl Gi (f.out _ h) ?_
   iterate 8 (refine tkA ?_;try simp only[Qs,Zhb,Zgo,Zg6,Gr,Gq,Gp])
   refine tk0 ?_;refine wpAnyL_o 8 λK hK=>?_;go_simp;refine(Zmc x.na x.nb A1 B1 Y U n1 c1 m1 d1 V T O J x.la x.lb X0 (l1.out.below h) (l2.out.below h) (y.out.below h) (I.out.below h)).mono ?_;rintro e w3 ⟨rfl,a3⟩;have C:=Gs h a3;have a4:=Gs hB C;refine hK.out _ _ (λ_=>f.out _ C) ?_;clear hK K
   try simp only[Qs,Zhb,Zgo,Zg6]
   refine Zgp 1 [9] rfl Gi (f.out _ C) ?_
   (refine tkA ?_;try simp only[Qs,Zhb,Zgo,Zg6,Gr,Gq,Gp])
   refine tk0 ?_;refine wpAnyL_fin ?_;clear hxs f;go_wp2_with fail
   go_roundg (n-(i+1))
   case measure=>omega
   case rel=>exact⟨i+1,by omega,by go_num,a4⟩
theorem Zw3(A B:Option Addr)(n c d:Nat)(D:List (List DF))(w:World)(ha:XM w A n c D)(hb:XM w B n d D) :
    Calls Tryz.prog 12 #[.slice A n c,.slice B n d] w λe w'=>e=.returned (.bool true)/\Below w.heap.size w w':=by
 have hmx:=Gt;have hl:=Zb ha.1;have hc:=ha.2.1;have T:=ha.2.2.1;have hd:=hb.2.1;have U:=hb.2.2.1;unfold maxLen at T U;replace ha:=Zb ha;replace hb:=Zb hb;have t0:(((n:Int)) != (n:Int))=false:=Gh
 go_in;go_wp2_with fail
 go_loopg [5] n (λk iv wr=>∃ i:Nat,i+k=n/\iv=.int .i64 i/\Below w.heap.size w wr)
 case atStart=>exact⟨0,by omega,rfl,QC _ _⟩
 case round =>
  obtain⟨i,a1,rfl,hB⟩:=hrel;cases gk with
  | zero =>
   exact Id
  | succ k' =>
   obtain rfl:k'=n-(i+1):=Gk;have V:i<n:=Gk;have t1:decide ((i:Int)<(n:Int))=true:=Gv Gk;have bi:(i:Int)<(n:Int):=Gk;obtain⟨x,hx⟩:=Zb0 (L:=D) (i:=i) (by rw[hl.out];exact V);obtain⟨g,o,A1,n1,c1,rfl,r0,l1⟩:=(ha.out.below hB).2.2.2 i x hx;obtain⟨g',o',O,y,J,rfl,s0,u⟩:=(hb.out.below hB).2.2.2 i x hx;obtain rfl:y=n1:=by rw[<- l1.1,<- u.1]
   replace l1:=Zb l1;replace u:=Zb u;go_wp2_with fail;obtain⟨X0,C⟩:=Gz wr.drew;have h:Below wr.heap.size wr X0:=by rw[<- C];exact Zf (QC _ _) 1
   have f:Hid (∀ wx,Below wr.heap.size wr wx->wx.cell? ⟨g,o+i,none⟩=some (.slice A1 y c1)/\wx.cell? ⟨g',o'+i,none⟩=some (.slice O y J)):=Zb (λwx hbx=>⟨Za hbx r0,Za hbx s0⟩);refine wp_heldS [] hmx f (by rw[C];exact h) (λhxs=>?_);rw[C];refine Zj9 8 [0,1,2,3,4,5,6,7] rfl Gi (f.out _ h) ?_
   iterate 8 (refine tkA ?_;try simp only[Qs,Zhb,Zgo,Zg6,Gr,Gq,Gp])
   refine tk0 ?_;refine wpAnyL_o 8 λK hK=>?_;go_simp;refine(Zql A1 O y c1 J x X0 (l1.out.below h) (u.out.below h)).mono ?_;rintro e w3 ⟨rfl,Y⟩;have I:=Gs h Y;have a0:=Gs hB I;refine hK.out _ _ (λ_=>f.out _ I) ?_;clear hK K
   try simp only[Qs,Zhb,Zgo,Zg6]
   refine Zgp 1 [9] rfl Gi (f.out _ I) ?_
   (refine tkA ?_;try simp only[Qs,Zhb,Zgo,Zg6,Gr,Gq,Gp])
   refine tk0 ?_;refine wpAnyL_fin ?_;clear hxs f;go_wp2_with fail
   go_roundg (n-(i+1))
   case measure=>omega
   case rel=>exact⟨i+1,by omega,by go_num,a0⟩
theorem Zpx{x y:Int}{na nb:Bool}(ha:na=decide (x<0))(hb:nb=decide (y<0)):Zge na nb (digits x.natAbs) (digits y.natAbs)=decide (x=y):=by
 unfold Zge;rw[Zdc,ha,hb];by_cases h:x=y;subst h;simp[Zcr];rw[Gu h];unfold Zcr;by_cases h1:(decide (x<0) == decide (y<0))=true
 ·have:x.natAbs≠y.natAbs:=by
    intro e;rw[beq_iff_eq,decide_eq_decide]at h1;omega
  rcases Nat.lt_or_gt_of_ne this with h2|h2;rw[Gx Gk];simp;rw[Gw Gk,Gx Gk];simp
 rw[Bool.not_eq_true]at h1;rw[h1];rfl
def Fz(w:World)(na:Bool)(A:Option Addr)(n c:Nat)(nb:Bool)(B:Option Addr)(m d:Nat)(q:Int × Int):Prop:=Wd w na A n c q.1/\Wd w nb B m d q.2
theorem Fz.below{w w':World}{na:Bool}{A:Option Addr}{n c:Nat}{nb:Bool}{B:Option Addr}{m d:Nat}{r:Int × Int}(h:Fz w na A n c nb B m d r)(hb:Below w.heap.size w w'):Fz w' na A n c nb B m d r:=⟨h.1.below hb,h.2.below hb⟩
def prQ(r:Rat):Int × Int:=(r.num,(r.den:Nat))
theorem Fr.fz{w:World}{na:Bool}{A:Option Addr}{n c:Nat}{nb:Bool}{B:Option Addr}{m d:Nat}{r:Rat}(h:Fr w na A n c nb B m d r):Fz w na A n c nb B m d (prQ r):=h
theorem Zy3(na nb na' nb':Bool)(A B A' B':Option Addr)(n c m d n' c' m' d':Nat)(a b:Int × Int)(w:World)(ha:Fz w na A n c nb B m d a)(hb:Fz w na' A' n' c' nb' B' m' d' b)(s:Bool)(hs:decide (a=b)=s) :
    Calls Tryz.prog 21 #[.agg #[.bool na,.slice A n c,.bool nb,.slice B m d],.agg #[.bool na',.slice A' n' c',.bool nb',.slice B' m' d']] w λe w'=>e=.returned (.bool s)/\Below w.heap.size w w':=by
 obtain⟨W0,o,h,⟨q0,q1⟩,s0⟩:=Zdb w 41 #[.bool na,.slice A n c,.bool nb,.slice B m d] 41 #[.bool na',.slice A' n' c',.bool nb',.slice B' m' d'];have hA:=Zb (ha.below h);have hD:=Zb (hb.below h);have e1:=Zb (Zpx ha.1.1 hb.1.1);have e2:=Zb (Zpx ha.2.1 hb.2.1);clear ha hb;obtain⟨x,hx⟩:∃ x,decide (a.1=b.1)=x:=⟨_,rfl⟩;obtain⟨y,hy⟩:∃ y,decide (a.2=b.2)=y:=⟨_,rfl⟩
 have u:s=(x && y):=by
  rw[<- hs,<- hx,<- hy,Bool.eq_iff_iff];simp only[decide_eq_true_eq,Qe];constructor;rintro rfl;exact⟨rfl,rfl⟩;rintro⟨h1,h2⟩;exact Prod.ext h1 h2
 subst u;rw[hx]at e1;rw[hy]at e2;clear hs hx hy;obtain⟨a0,a1,a2,a3,-⟩:=q0.four;obtain⟨b0,b1,b2,b3,-⟩:=q1.four;have hq:=Zb (Qz q0 q1);clear q0 q1;go_in;go_wp2_with fail;refine(Zdx na na' A A' n c n' c' _ _ W0 hA.out.1.lim hD.out.1.lim).mono ?_;rw[e1.out];rintro e w1 ⟨rfl,f⟩;have ae:Below w.heap.size w w1:=Gs h f;replace hA:=Zb (hA.out.below f);replace hD:=Zb (hD.out.below f);obtain⟨q0,q1⟩:=hq.out;replace q0:=Zc f q0;replace q1:=Zc f q1;clear o f a0 a1 a2 a3 b0 b1 b2 b3 hq h;obtain⟨a0,a1,a2,a3,-⟩:=q0.four;obtain⟨b0,b1,b2,b3,-⟩:=q1.four;clear q0 q1;cases x
 ·go_wp2_with fail
  go_ret;exact⟨rfl,ae⟩
 go_wp2_with fail;refine(Zdx nb nb' B B' m d m' d' _ _ w1 hA.out.2.lim hD.out.2.lim).mono ?_;rw[e2.out];exact It
theorem prQ_inj{a b:Rat}:prQ a=prQ b ↔ a=b:=by
 constructor
 ·intro h
  have h1:=congrArg Prod.fst h;have h2:=congrArg Prod.snd h;simp only[prQ]at h1 h2;exact Rat.ext h1 Gk
 rintro rfl;rfl
theorem Zjp(na nb na' nb':Bool)(A B A' B':Option Addr)(n c m d n' c' m' d':Nat)(a b:Rat)(w:World)(ha:Fr w na A n c nb B m d a)(hb:Fr w na' A' n' c' nb' B' m' d' b)(s:Bool)(hs:decide (a=b)=s) :
    Calls Tryz.prog 21 #[.agg #[.bool na,.slice A n c,.bool nb,.slice B m d],.agg #[.bool na',.slice A' n' c',.bool nb',.slice B' m' d']] w λe w'=>e=.returned (.bool s)/\Below w.heap.size w w':=
 Zy3 na nb na' nb' A B A' B' n c m d n' c' m' d' (prQ a) (prQ b) w ha.fz hb.fz s (by rw[<- hs];exact decide_eq_decide.2 prQ_inj)
def Zox(a b:Rat):Int:=if a<b then -1 else if b<a then 1 else 0
theorem Zst(a b:Rat):Zcr (a.num*b.den) (b.num*a.den)=Zox a b:=by
 unfold Zcr Zox;simp only[Rat.lt_iff]
theorem Zzw(na nb na' nb':Bool)(A B A' B':Option Addr)(n c m d n' c' m' d':Nat)(a b:Rat)(w:World)(ha:Fr w na A n c nb B m d a)(hb:Fr w na' A' n' c' nb' B' m' d' b)(sa:Sm a)(sb:Sm b) :
    Calls Tryz.prog 63 #[.agg #[.bool na,.slice A n c,.bool nb,.slice B m d],.agg #[.bool na',.slice A' n' c',.bool nb',.slice B' m' d']] w λe w'=>e=.returned (.tuple #[.int .i64 (Zox a b),.int .i64 0])/\Below w.heap.size w w':=by
 rw[<- Zst];have h1:=Zb (Zbr sa.1 sb.dn);have h2:=Zb (Zbr sb.1 sa.dn);obtain⟨W0,a5,y,⟨q0,q1⟩,s0⟩:=Zdb w 41 #[.bool na,.slice A n c,.bool nb,.slice B m d] 41 #[.bool na',.slice A' n' c',.bool nb',.slice B' m' d'];have hA:=Zb (ha.below y);have hD:=Zb (hb.below y);clear ha hb sa sb;generalize hX:a.num*((b.den:Nat):Int)=X at *;generalize hY:b.num*((a.den:Nat):Int)=Y at *
 replace hX:=Zb hX;replace hY:=Zb hY;obtain⟨a0,a1,a2,a3,-⟩:=q0.four;obtain⟨b0,b1,b2,b3,-⟩:=q1.four;have hq:=Zb (Qz q0 q1);clear q0 q1;go_in;go_wp2_with fail;refine(Zw7 na nb na' nb' A B A' B' n c m d n' c' m' d' a b W0 hA.out hD.out).mono ?_;rintro e w1 ⟨rfl,u⟩;have I:Below w.heap.size w w1:=Gs y u;replace hA:=Zb (hA.out.below u);replace hD:=Zb (hD.out.below u);obtain⟨q0,q1⟩:=hq.out;replace q0:=Zc u q0;replace q1:=Zc u q1;clear a5 u a0 a1 a2 a3 b0 b1 b2 b3 hq y;obtain⟨a0,a1,a2,a3,-⟩:=q0.four;obtain⟨b0,b1,b2,b3,-⟩:=q1.four;have hq:=Zb (Qz q0 q1);clear q0 q1;go_wp2_with fail;have hM:=Zgy na nb' A B' n c m' d' a.num b.den w1 hA.out.1 hD.out.2;rw[hX.out]at hM;refine hM.mono ?_;clear hM;rintro e w2 ⟨o,n1,P1,k1,c1,code,rfl,hR⟩;have f:=Zb (hR.small h1.out);have h:=hR.code0 h1.out;subst h;have J:Below w.heap.size w w2:=Gs I o;replace hA:=Zb (hA.out.below o);replace hD:=Zb (hD.out.below o);obtain⟨q0,q1⟩:=hq.out;replace q0:=Zc o q0;replace q1:=Zc o q1;clear o a0 a1 a2 a3 b0 b1 b2 b3 hq I hR h1 hX;obtain⟨W2,a4,U,r1,kW,kB,t2⟩:=Zs 39 #[.bool n1,.slice P1 k1 c1] J J.size;replace q0:=kB _ _ _ q0;replace q1:=kB _ _ _ q1;replace hA:=Zb (hA.out.keep kW);replace hD:=Zb (hD.out.keep kW);replace f:=Zb (kW _ _ _ _ _ f.out);clear kW kB J;obtain⟨a0,a1,a2,a3,-⟩:=q0.four;obtain⟨b0,b1,b2,b3,-⟩:=q1.four;clear q0 q1;replace r1:=Zb r1
 go_wp2_with fail;have hM:=Zgy na' nb A' B n' c' m d b.num a.den W2 hD.out.1 hA.out.2;rw[hY.out]at hM;refine hM.mono ?_;clear hM;rintro e w3 ⟨C,n2,P2,k2,c2,code,rfl,hR⟩;have T:=Zb (hR.small h2.out);have h:=hR.code0 h2.out;subst h;have O:Below w.heap.size w w3:=Gs U C;replace r1:=Zc C r1.out;replace f:=Zb (f.out.below C);clear C a0 a1 a2 a3 b0 b1 b2 b3 U hR h2 hY hA hD a4;obtain⟨W3,a8,V,r2,kW,kB,t3⟩:=Zs 39 #[.bool n2,.slice P2 k2 c2] O O.size;replace r1:=kB _ _ _ r1;replace f:=Zb (kW _ _ _ _ _ f.out);replace T:=Zb (kW _ _ _ _ _ T.out);clear kW kB O;obtain⟨x0,x1,-⟩:=r1.two;obtain⟨y0,y1,-⟩:=r2.two;clear r1 r2;go_wp2_with fail;refine(Zqb n1 n2 P1 P2 k1 c1 k2 c2 X Y W3 f.out T.out).mono ?_;rintro e w4 ⟨rfl,a7⟩;have a6:Below w.heap.size w w4:=Gs V a7;go_wp2_with fail
 go_ret2
 exact⟨rfl,a6⟩
theorem Zra(na nb:Bool)(A B:Option Addr)(n c m d:Nat)(la lb:List Nat)(w:World)(ha:Lim w A n c la)(hb:Lim w B m d lb)(hbad:okW na la=false) :
    Calls Tryz.prog 17 #[.agg #[.bool na,.slice A n c,.bool nb,.slice B m d]] w λe w'=>e=.returned (.int .i64 8)/\Below w.heap.size w w':=by
 have hmx:=Gt;obtain⟨W0,u,f,q0,s0⟩:=Zan w 41 #[.bool na,.slice A n c,.bool nb,.slice B m d];have hA:=Zb (ha.below f);clear ha hb;obtain⟨a0,a1,a2,a3,-⟩:=q0.four;go_in;go_wp2_with fail;refine(Zl9 hA.out hbad).mono ?_;rintro e w1 ⟨rfl,h⟩;have o:Below w.heap.size w w1:=Gs f h;clear u a0 a1 a2 a3;obtain⟨a0,a1,a2,a3,-⟩:=(Zc h q0).four;go_wp2_with fail;go_ret;exact⟨rfl,o⟩
theorem EG{G:Prop}(h:G:=by
 rintro e w2 ⟨rfl,aa⟩;have ax:Below w.heap.size w w2:=Gs ae aa;replace q0:=Zc aa q0;clear a0 a1 a2 a3 aa;obtain⟨a0,a1,a2,a3,-⟩:=q0.four;go_wp2_with fail;go_ret;exact⟨rfl,ax⟩):G:=h
theorem Zqc(na nb:Bool)(A B:Option Addr)(n c m d:Nat)(la lb:List Nat)(w:World)(ha:Lim w A n c la)(hb:Lim w B m d lb)(hk:okW na la=true)(hbad:okW nb lb=false) :
    Calls Tryz.prog 17 #[.agg #[.bool na,.slice A n c,.bool nb,.slice B m d]] w λe w'=>e=.returned (.int .i64 8)/\Below w.heap.size w w':=by
 have hmx:=Gt;obtain⟨W0,o,h,q0,s0⟩:=Zan w 41 #[.bool na,.slice A n c,.bool nb,.slice B m d];have hA:=Zb (ha.below h);have hD:=Zb (hb.below h);clear ha hb;obtain⟨a0,a1,a2,a3,-⟩:=q0.four;go_in;go_wp2_with fail;refine(Zbw hA.out hk).mono ?_;rintro e w1 ⟨rfl,f⟩;have ae:Below w.heap.size w w1:=Gs h f;replace q0:=Zc f q0;replace hA:=Zb (hA.out.below f);replace hD:=Zb (hD.out.below f);clear o a0 a1 a2 a3 f;obtain⟨a0,a1,a2,a3,-⟩:=q0.four;go_wp2_with fail;refine(Zl9 hD.out hbad).mono ?_;exact EG
theorem Zp7(na:Bool)(A B:Option Addr)(n c m d:Nat)(la lb:List Nat)(w:World)(ha:Lim w A n c la)(hb:Lim w B m d lb)(hk:okW na la=true)(hk2:okW true lb=true) :
    Calls Tryz.prog 17 #[.agg #[.bool na,.slice A n c,.bool true,.slice B m d]] w λe w'=>e=.returned (.int .i64 8)/\Below w.heap.size w w':=by
 have hmx:=Gt;obtain⟨W0,o,h,q0,s0⟩:=Zan w 41 #[.bool na,.slice A n c,.bool true,.slice B m d];have hA:=Zb (ha.below h);have hD:=Zb (hb.below h);clear ha hb;obtain⟨a0,a1,a2,a3,-⟩:=q0.four;go_in;go_wp2_with fail;refine(Zbw hA.out hk).mono ?_;rintro e w1 ⟨rfl,f⟩;have ae:Below w.heap.size w w1:=Gs h f;replace q0:=Zc f q0;replace hA:=Zb (hA.out.below f);replace hD:=Zb (hD.out.below f);clear o a0 a1 a2 a3 f;obtain⟨a0,a1,a2,a3,-⟩:=q0.four;go_wp2_with fail;refine(Zbw hD.out hk2).mono ?_;exact EG
theorem Zq4(na:Bool)(A B:Option Addr)(n c d:Nat)(la:List Nat)(w:World)(ha:Lim w A n c la)(hb:Lim w B 0 d [])(hk:okW na la=true) :
    Calls Tryz.prog 17 #[.agg #[.bool na,.slice A n c,.bool false,.slice B 0 d]] w λe w'=>e=.returned (.int .i64 8)/\Below w.heap.size w w':=by
 have hmx:=Gt;obtain⟨W0,o,h,q0,s0⟩:=Zan w 41 #[.bool na,.slice A n c,.bool false,.slice B 0 d];have hA:=Zb (ha.below h);have hD:=Zb (hb.below h);clear ha hb;obtain⟨a0,a1,a2,a3,-⟩:=q0.four;go_in;go_wp2_with fail;refine(Zbw hA.out hk).mono ?_;rintro e w1 ⟨rfl,f⟩;have ae:Below w.heap.size w w1:=Gs h f;replace q0:=Zc f q0;replace hA:=Zb (hA.out.below f);replace hD:=Zb (hD.out.below f);clear o a0 a1 a2 a3 f;obtain⟨a0,a1,a2,a3,-⟩:=q0.four;go_wp2_with fail;refine(Zbw hD.out Gj).mono ?_;exact EG
theorem Zrf(na:Bool)(A B:Option Addr)(n c m d:Nat)(za zb:Int)(w:World)(h1:Wd w na A n c za)(h2:Wd w false B m d zb)(hp:0<zb)(hg:Nat.gcd za.natAbs zb.natAbs≠1) :
    Calls Tryz.prog 17 #[.agg #[.bool na,.slice A n c,.bool false,.slice B m d]] w λe w'=>e=.returned (.int .i64 8)/\Below w.heap.size w w':=by
 have hmx:=Gt;have a4:0<m:=by rw[<- h2.lim.len];exact length_digits_pos.2 Gk
 have Y:((m:Int) == 0)=false:=by simp;omega
 have hm:=h2.2.1;have O:=Zdu h1.small h2.small;obtain⟨G,J⟩:=Gz (Nat.gcd za.natAbs zb.natAbs);rw[J]at hg O;replace hg:=Zb hg;obtain⟨W0,U,h,q0,s0⟩:=Zan w 41 #[.bool na,.slice A n c,.bool false,.slice B m d];have hA:=Zb (Qz (h1.below h) (h2.below h));clear h1 h2;obtain⟨a0,a1,a2,a3,-⟩:=q0.four;replace q0:=Zb q0;go_in;go_wp2_with fail;refine(Zbw hA.out.1.lim hA.out.1.ok).mono ?_;rintro e w1 ⟨rfl,u⟩;have y:Below w.heap.size w w1:=Gs h u;replace hA:=Zb (Qz (hA.out.1.below u) (hA.out.2.below u));replace q0:=Gm u q0;clear a0 a1 a2 a3 u h U;obtain⟨a0,a1,a2,a3,-⟩:=q0.out.four;go_wp2_with fail;refine(Zbw hA.out.2.lim hA.out.2.ok).mono ?_;rintro e w2 ⟨rfl,o⟩;have C:Below w.heap.size w w2:=Gs y o;replace hA:=Zb (Qz (hA.out.1.below o) (hA.out.2.below o));replace q0:=Gm o q0;clear a0 a1 a2 a3 o y;obtain⟨a0,a1,a2,a3,-⟩:=q0.out.four;go_wp2_with fail;refine(Zl6 na false A B n c m d za zb w2 hA.out.1 hA.out.2).mono ?_;rw[J];rintro e w3 ⟨T,ng,Ag,kg,cg,code,rfl,hR⟩;have hG:=Zb (hR.small (by rw[Qi];exact O));have I:Below w.heap.size w w3:=Gs C T;clear a0 a1 a2 a3 T C q0 hA hR;obtain⟨W4,a5,V,q4,kW,kB,s4⟩:=Zs 39 #[.bool ng,.slice Ag kg cg] I I.size;replace hG:=Zb (kW _ _ _ _ _ hG.out);clear kW kB;obtain⟨g0,g1,-⟩:=q4.two;replace q4:=Zb q4;go_wp2_with fail;refine Zy [] (λW'=>W'.cell? ⟨w3.heap.size,0,none⟩=some (.bool ng)/\W'.cell? ⟨w3.heap.size,1,none⟩=some (.slice Ag kg cg)) hmx ⟨g0,g1⟩ (λ_=>?_);refine Zj9 1 [0] rfl Gi ⟨g0,g1⟩ ?_
 (refine tkA ?_;try simp only[Qs,Zhb,Zgo,Zg6,Gr,Gq,Gp])
 refine tk0 ?_;refine wpAnyL_o 1 λK hK=>?_;go_simp;refine(Zdi 1 W4.drew Gk Gk).mono ?_;rintro e w5 ⟨f,n1,A1,k1,c1,rfl,hO⟩;replace f:=Zu f;have aJ:Below w.heap.size w w5:=V.trans (f.mono (by show w.heap.size<=W4.heap.size;have:=I.size;omega));replace hG:=Zb (hG.out.below f);replace q4:=Gm f q4;clear g0 g1;obtain⟨g0,g1,-⟩:=q4.out.two;refine hK.out _ _ (λ_=>⟨g0,g1⟩) ?_;clear hK K
 try simp only[Qs,Zhb,Zgo,Zg6]
 refine wpAnyL_o 2 λK hK=>?_;go_simp;refine(Zdx ng n1 Ag A1 kg cg k1 c1 _ _ w5 hG.out.lim hO.lim).mono ?_;have iO:Zge ng n1 (digits (Int.natAbs ((G:Nat):Int))) (digits (Int.natAbs 1))=false:=by have h1:=hG.out.1;have h2:=hO.1;rw[h1,h2];unfold Zge;have:=hg.out;simp[Zdc,Zcr];omega
 exact EK
theorem Zlp(na nb:Bool)(A B:Option Addr)(n c m d:Nat)(la lb:List Nat)(w:World)(ha:Lim w A n c la)(hb:Lim w B m d lb)(x:Bool)(hx:okF na la nb lb=x) :
    Calls Tryz.prog 17 #[.agg #[.bool na,.slice A n c,.bool nb,.slice B m d]] w λe w'=>e=.returned (.int .i64 (Zfr x))/\Below w.heap.size w w':=by
 cases x
 ·simp only[okF,Bool.and_eq_false_iff,Bool.not_eq_false',decide_eq_false_iff_not]at hx
  by_cases h1:okW na la=true
  case neg=>exact Zra na nb A B n c m d la lb w ha hb (by simpa using h1)
  by_cases h2:okW nb lb=true
  case neg=>exact Zqc na nb A B n c m d la lb w ha hb h1 (by simpa using h2)
  have hA:=Wd.of_ok ha h1;have hD:=Wd.of_ok hb h2;cases nb
  ·by_cases hz:0<lb.length
   ·have e3:sg false (val lb)=(val lb:Nat):=rfl
    rw[e3]at hD;have f:=(Zjv hb.lt).1 h2;have e2:(sg false (val lb)).natAbs=val lb:=Z8 _ _;rw[e2]at f
    have hp:0<val lb:=by
     rw[f.2.2]at hz;exact length_digits_pos.1 hz
    refine Zrf na A B n c m d _ _ w hA hD Gk ?_;rw[Z8,Qi];rcases hx with (((hx|hx)|hx)|hx)|hx;rw[h1]at hx;cases hx;rw[h2]at hx;cases hx;cases hx;omega;exact hx
   have h:lb=[]:=List.eq_nil_of_length_eq_zero Gk;subst h;have hm:m=0:=hb.len.symm;subst hm;exact Zq4 na A B n c d la w ha hb h1
  exact Zp7 na A B n c m d la lb w ha hb h1 h2
 exact Zej na nb A B n c m d _ w (Zk6 ha hb hx)
theorem Iu{G:Prop}(h:G:=by
 go_wp2_with fail;go_ret;exact⟨rfl,(by first|exact aq|exact Zf aq _)⟩):G:=h
theorem Zlz(na nb:Bool)(A B:Option Addr)(n c m d:Nat)(w:World)(hn:n<=maxLen)(hm:m<=maxLen) :
    Calls Tryz.prog 24 #[.agg #[.bool na,.slice A n c,.bool nb,.slice B m d]] w λe w'=>e=.returned (.int .i64 (max n m:Nat))/\Below w.heap.size w w':=by
 unfold maxLen at hn hm;obtain⟨W0,f,aq,q0,s0⟩:=Zan w 41 #[.bool na,.slice A n c,.bool nb,.slice B m d];obtain⟨a0,a1,a2,a3,-⟩:=q0.four;have hx:max (n:Int) (m:Int)=((max n m:Nat):Int):=Gk
 go_in;exact Iu
def FX.fine(e:FX):Bool:=decide (e.few<=8) && e.ok
def Zex(es:List FX):Bool:=es.all FX.fine
section
variable{P:Program}(w:World)
theorem Zay{o:Oper}{a:Act}{K:Act->World->Prop}{Q:Exit->Act->World->Prop}(s x:Operand)(t:TypeId)
    (ho:o.op=.call { callee:=.builtin .append,args:=#[s,x],argTypes:=#[t,t] })
    (base:Nat) (e:TypeId) (i:TypeInfo) (ht:P.underlying t=some (.slice e)) (hi:P.info? e=some i) (hz:i.zero=some (.slice none 0 0)) (hsi:i.size=1) (hby:i.bytes=24)
    (v:Value) (rs:List RS) (hs:a.eval s=v) (hown:RowS e w base v rs)
    (B:Nat) (A:Option Addr) (m c:Nat) (fs:List RS) (hx:a.eval x=.slice A m c) (hr:Reads w B 1 A m (Zaq fs)) (hm:fs.length=m)
    (h63:rs.length+m<=1000) (hbase:base<=w.heap.size)
    (h:∀ v' w',RowS e w' base v' (rs++fs)->w.grownBy w' v.ownBlock->(∀ (A:Option Addr) (n c:Nat) (l:List Nat),Lim w A n c l->Lim w' A n c l)->K (a.put o.dst v') w'):o.wp P a w K Q:=by
 obtain⟨v',w',f,h3,h4⟩:=Zm9 (P:=P) w base t o.type e i ht hi hz hsi hby v rs hown B A m c fs hr hm h63 hbase;unfold Oper.wp execOp;simp only[ho,resolve,invoke,builtin,Sem.run_bind,Sem.run_pure,Result.andThen_ok,List.map_toArray,List.map_cons,List.map_nil,hs,hx,f];exact h v' w' h3 h4 (λ_ _ _ _ hL=>hown.keep h4 hL)
end
theorem FL.reads{w:World}{A:Option Addr}{n c:Nat}{qs:List Rat}(h:FL w A n c qs):∃ fs:List FE,Reads w w.heap.size 4 A n (Zp fs)/\fs.length=n/\(∀ e ∈ fs,e.in_ w)/\fs.map FE.q=qs:=by
 obtain⟨es,h1,h2,h3,h4,h5,h6⟩:=h;refine⟨es,⟨by rw[Zt,h1],λhn=>?_⟩,h1,h4,h5⟩;obtain⟨g,o,e1,hc⟩:=h6 hn;refine⟨⟨g,o,none⟩,e1,?_,λj u hu=>?_⟩
 ·have:=(hc 0 es[0] (Qg Gk)).1
  exact Zo this
 rw[Zg]
 have hj:j<es.length*4:=by
  have:=(List.getElem?_eq_some_iff.1 hu).1
  rwa [Zt]at this
 have he:=Qg (show j/4<es.length by omega);have hg:=Zfk he;have hm:=hc (j/4) _ he;have h4:j%4=0 \/ j%4=1 \/ j%4=2 \/ j%4=3:=Gk;rcases h4 with h2|h2|h2|h2;rw[show j/4*4=j by omega]at hg hm;rw[hg.1]at hu;cases hu;exact hm.1;rw[show j/4*4+1=j by omega]at hg hm;rw[hg.2.1]at hu;cases hu;exact hm.2.1;rw[show j/4*4+2=j by omega]at hg hm;rw[hg.2.2.1]at hu;cases hu;exact hm.2.2.1;rw[show j/4*4+3=j by omega]at hg hm;rw[hg.2.2.2]at hu;cases hu;exact hm.2.2.2
theorem Ze0:(Tryz.prog.info? 41).map (λi=>(i.zero,i.size,i.bytes))=some (some (.agg #[.bool false,.slice none 0 0,.bool false,.slice none 0 0]),4,64):=by kernel_rfl
theorem Zko:(Tryz.prog.info? 35).map (λi=>(i.zero,i.size,i.bytes))=some (some (.slice none 0 0),1,24):=by kernel_rfl
def MatO(tS tF:TypeId)(w:World)(base:Nat)(v:Value)(L:List RF):Prop:=
 RowS tS w base v (L.map RF.rs)/\(∀ r ∈ L,(FOwn tF w r.g r.q/\r.q.length<=r.c/\r.c<=maxLen)/\base<=r.g)/\(L.map RF.g).Nodup
theorem Blk.type{w:World}{g:Nat}{t t':TypeId}{cs cs':Array Value}(h:Blk w g t cs)(h':Blk w g t' cs'):t=t':=by
 unfold Blk at h h';rw[h]at h';cases h';rfl
section
variable{tS tF:TypeId}{w w':World}{base:Nat}{v v':Value}{L:List RF}
theorem MatO.nil(tS tF:TypeId)(w:World)(base:Nat):MatO tS tF w base (.slice none 0 0) []:=⟨.inl ⟨rfl,rfl⟩,λr hr=>(by cases hr),List.nodup_nil⟩
theorem MatO.kept(h:MatO tS tF w base v L)(hb:Below w.heap.size w w'):MatO tS tF w' base v L:=⟨h.1.kept hb,λr hr=>⟨⟨(h.2.1 r hr).1.1.below hb,(h.2.1 r hr).1.2⟩,(h.2.1 r hr).2⟩,h.2.2⟩
theorem RowS.ownType{rs:List RS}(h:RowS tS w base v rs){g:Nat}{cs:Array Value}(hb:Blk w g tF cs)(hne:tS≠tF):v.ownBlock≠some g:=by
 rintro e;rcases h with ⟨rfl,_⟩|⟨g',sp,rfl,_,_,h4⟩;cases e;have:g'=g:=by simpa [Value.ownBlock]using e
 subst this;exact hne (h4.type hb)
theorem FOwn.grown{g:Nat}{qs:List Rat}(h:FOwn tF w g qs)(hg:w.grownBy w' v.ownBlock)(hne:v.ownBlock≠some g)(hk:∀ (A:Option Addr) (n c:Nat) (l:List Nat),Lim w A n c l->Lim w' A n c l):FOwn tF w' g qs:=by
 obtain⟨es,zs,h1,h2,h3⟩:=h;exact⟨es,zs,(hg.block g h1.lt (λe=>hne (by first|exact e|exact e.symm))).trans h1,λe he=>(h2 e he).of_keep hk,h3⟩
theorem EN{G:Prop}(h:G:=by
 refine⟨by rw[List.map_append];exact h1,λs hs=>?_,?_⟩
 ·rcases List.mem_append.1 hs with hs|hs
  ·have:=h.2.1 s hs
   exact⟨⟨this.1.1.grown hg (ow this.1.1) hk,this.1.2⟩,this.2⟩
  rw[List.mem_singleton]at hs;subst hs;exact⟨⟨hr.1.grown hg (ow hr.1) hk,hr.2⟩,hbr⟩
 rw[List.map_append,List.nodup_append];refine⟨h.2.2,by simp,λa ha b hb=>?_⟩;obtain⟨s,hs,rfl⟩:=List.mem_map.1 ha;simp only[List.map_cons,List.map_nil,List.mem_singleton]at hb;rw[hb];exact eP s hs):G:=h
theorem MatO.snoc(h:MatO tS tF w base v L)(hne:tS≠tF){r:RF}(hr:FOwn tF w r.g r.q/\r.q.length<=r.c/\r.c<=maxLen)(hbr:base<=r.g)(eP:∀ s ∈ L,s.g≠r.g)(h1:RowS tS w' base v' (L.map RF.rs ++ [r.rs]))(hg:w.grownBy w' v.ownBlock)
    (hk:∀ (A:Option Addr) (n c:Nat) (l:List Nat),Lim w A n c l->Lim w' A n c l):MatO tS tF w' base v' (L ++ [r]):=by
 have ow:∀ {s:RF},FOwn tF w s.g s.q->v.ownBlock≠some s.g:=λhs=>by obtain⟨es,zs,q1,-,-⟩:=hs;exact h.1.ownType q1 hne
 exact EN
theorem MatO.mat(h:MatO tS tF w base v L)(hne:tS≠tF)(hl:L ≠ []):∃ go cap,v=.slice (some ⟨go,0,none⟩) L.length cap/\L.length<=cap/\cap<=maxLen/\base<=go/\MatB tS tF w go L/\∀ r ∈ L,base<=r.g:=by
 rcases h.1 with ⟨-,h2⟩|⟨go,sp,rfl,h2,h3,h4⟩;exact absurd (List.map_eq_nil_iff.1 h2) hl;refine⟨go,_,by rw[Qn],by rw[Qn];omega,h3,h2,⟨⟨_,h4⟩,λr hr=>(h.2.1 r hr).1,?_⟩,λr hr=>(h.2.1 r hr).2⟩;refine List.nodup_cons.2 ⟨λhm=>?_,h.2.2⟩;obtain⟨r,hr,e⟩:=List.mem_map.1 hm;obtain⟨es,zs,q1,-,-⟩:=(h.2.1 r hr).1.1;rw[e]at q1;exact hne (h4.type q1)
end
