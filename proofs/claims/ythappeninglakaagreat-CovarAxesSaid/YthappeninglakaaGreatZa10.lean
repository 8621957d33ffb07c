/- Centroids: sums over a list of pixels, moments about a -/
import Derived.Deep.LoopGhost
import Derived.Test.YthappeninglakaaGreatZa09
import Derived.Test.YthappeninglakaaGreatZa08
set_option maxRecDepth 100000
set_option maxHeartbeats 2000000
set_option linter.unusedSimpArgs false
set_option linter.unusedVariables false
namespace Go.Proofs.YthappeninglakaaGreat
open Go.RowKit
open Nat renaming lt_of_le_of_lt→Qa,le_refl→Qb,le_trans→Qe,lt_of_lt_of_le→Qf,mul_le_mul→Qo,le_mul_of_pos_right→Qp,add_sub_cancel'→Qr,zero_le→Qv,sub_self→Qz
open List renaming getElem?_map→Qc,getElem?_eq_getElem→Qd,getElem?_append_left→Qh,mem_of_getElem?→Qi,length_append→Ql,getElem?_append_right→Qm,getElem?_set→Qn,getElem?_eq_none→Qq,length_map→Qs,ext_getElem?→Qu,mem_singleton→Qw,mem_or_eq_of_mem_set→Qx,length_singleton→QA,getElem_of_mem→QB,getElem?_range→QC,map_set→QE,map_toArray→QG,nil_append→QH,length_set→QI
open And renaming intro→Qg
open Int renaming natAbs_natCast→Qj,natAbs_mul→Qk
open Rat renaming divInt→Qt,intCast_natCast→QD
open Act renaming put→Qy
open Option renaming getD_some→QF
open Ne renaming symm→QJ
theorem Zvn(a b:Int)(h:b≠0):(Qt a b).num.natAbs<=a.natAbs:=by
 rw[Rat.num_divInt];rw[Int.natAbs_ediv_of_dvd];exact FI;exact Int.dvd_trans (Int.gcd_dvd_right _ _) (Int.dvd_mul_left _ _)
theorem Ztu(a b:Int)(h:b≠0):(Qt a b).den<=b.natAbs:=by
 rw[Rat.den_divInt,Gw h];exact Nat.div_le_self _ _
theorem Zeh:1<pw 1:=by rw[Za6,Zds];decide
def SmN(i j:Nat)(r:Rat):Prop:=r.num.natAbs<pw i/\r.den<pw j
theorem SmN.sm{i j:Nat}{r:Rat}(h:SmN i j r)(hi:i<=1000)(hj:j<=1000):Sm r:=⟨Qf h.1 (Zca hi),Qf h.2 (Zca hj)⟩
theorem SmN.mono{i j i' j':Nat}{r:Rat}(h:SmN i j r)(hi:i<=i')(hj:j<=j'):SmN i' j' r:=⟨Qf h.1 (Zca hi),Qf h.2 (Zca hj)⟩
theorem SmN.div{i j:Nat}{n s:Int}(h0:0<s)(hn:n.natAbs<pw i)(hs:s.natAbs<pw j):SmN i j (Qt n s):=
 ⟨Qa (Zvn n s Gk) hn,Qa (Ztu n s Gk) hs⟩
theorem SmN.int{i:Nat}{n:Int}(hn:n.natAbs<pw i):SmN i 1 (n:Rat):=⟨by simpa using hn,by simp only[Rat.den_intCast];exact Zeh⟩
theorem Zpr{x y z v:Int}{i j i' j':Nat}(hx:x.natAbs<pw i)(hy:y.natAbs<pw j)(hz:z.natAbs<pw i')(hv:v.natAbs<pw j'):(x*y).natAbs+(z*v).natAbs<pw (max (i+j) (i'+j')+1):=by
 have h1:(x*y).natAbs<pw (max (i+j) (i'+j')):=by
  rw[Qk];exact Qf (Zc4 hx hy) (Zca Gk)
 have h2:(z*v).natAbs<pw (max (i+j) (i'+j')):=by
  rw[Qk];exact Qf (Zc4 hz hv) (Zca Gk)
 have h3:=Zqi (max (i+j) (i'+j'));omega
theorem SmN.dn{i j:Nat}{r:Rat}(h:SmN i j r):((r.den:Nat):Int).natAbs<pw j:=by simpa using h.2
theorem IS{G:Prop}(h:G:=by
 refine SmN.div (Zcj a b) ?_ ?_;have:=Zpr ha.1 hb.dn hb.1 ha.dn;omega;rw[Int.natAbs_mul];exact Zc4 ha.dn hb.dn):G:=h
theorem SmN.sub{i j i' j':Nat}{a b:Rat}(ha:SmN i j a)(hb:SmN i' j' b):SmN (max (i+j') (i'+j)+1) (j+j') (a-b):=by
 rw[<- Zq8];exact IS
theorem SmN.add{i j i' j':Nat}{a b:Rat}(ha:SmN i j a)(hb:SmN i' j' b):SmN (max (i+j') (i'+j)+1) (j+j') (a+b):=by
 rw[<- Zwg];exact IS
structure RF where
 g:Nat
 c:Nat
 q:List Rat
def RF.rs(r:RF):RS:=⟨some ⟨r.g,0,none⟩,r.q.length,r.c⟩
def MatB(tS tF:TypeId)(w:World)(go:Nat)(L:List RF):Prop:=
 (∃ zs,Blk w go tS (Z7 (L.map RF.rs++zs)))/\(∀ r ∈ L,FOwn tF w r.g r.q/\r.q.length<=r.c/\r.c<=maxLen)/\(go::L.map RF.g).Nodup
section
variable{tS tF:TypeId}{w w':World}{go:Nat}{L:List RF}
theorem IX{G:Prop}(h:G:=by
 obtain⟨⟨zs,h1⟩,h2,h3⟩:=h;exact⟨⟨zs,Ze hb h1⟩,λr hr=>⟨(h2 r hr).1.below hb,(h2 r hr).2⟩,h3⟩):G:=h
theorem MatB.below(h:MatB tS tF w go L)(hb:Below w.heap.size w w'):MatB tS tF w' go L:=by
 exact IX
theorem FV{G:Prop}(h:G:=by
 obtain⟨⟨zs,h1⟩,-,-⟩:=h;refine⟨?_,h1.frozen i⟩;rw[h1.cell];refine Zb8 (e:=r.rs) ?_;have hi:=(List.getElem?_eq_some_iff.1 hr).1;rw[List.getElem?_append_left (by simpa using hi),List.getElem?_map,hr];rfl):G:=h
theorem MatB.cell(h:MatB tS tF w go L){i:Nat}{r:RF}(hr:L[i]?=some r):w.cell? ⟨go,i,none⟩=some (.slice (some ⟨r.g,0,none⟩) r.q.length r.c)/\w.frozen? ⟨go,i,none⟩=false:=by
 exact FV
theorem MatB.row(h:MatB tS tF w go L){i:Nat}{r:RF}(hr:L[i]?=some r):FOwn tF w r.g r.q/\r.q.length<=r.c/\r.c<=maxLen:=h.2.1 r (Qi hr)
theorem IM{G:Prop}(h:G:=by
 have:=(List.nodup_cons.1 h.2.2).1;exact this (List.mem_map.2 ⟨r,List.mem_of_getElem? hr,e.symm⟩)):G:=h
theorem MatB.ne(h:MatB tS tF w go L){i:Nat}{r:RF}(hr:L[i]?=some r):go≠r.g:=λe=>by
 exact IM
theorem Ic{G:Prop}(h:G:=by
 exact aN ((List.getElem?_inj (by have:=(List.getElem?_eq_some_iff.1 h1).1;exact this) hn).1 (h1.trans h2.symm))):G:=h
theorem MatB.ne2(h:MatB tS tF w go L){i j:Nat}{r s:RF}(hr:L[i]?=some r)(hs:L[j]?=some s)(aN:i≠j):r.g≠s.g:=λe=>by
 have hn:=(List.nodup_cons.1 h.2.2).2;have h1:(L.map RF.g)[i]?=some r.g:=by rw[Qc,hr];rfl
 have h2:(L.map RF.g)[j]?=some r.g:=by rw[Qc,hs,e];rfl
 exact Ic
theorem Iz{G:Prop}(h:G:=by
 intro k hk;obtain⟨⟨zs,h1⟩,h2,-⟩:=h;rcases hk with rfl|hk;exact⟨tS,_,h1,Zbe _⟩;obtain⟨r,hr,rfl⟩:=List.mem_map.1 hk;exact(h2 r hr).1.box):G:=h
theorem MatB.boxes(h:MatB tS tF w go L):∀ k,(k=go \/ k ∈ L.map RF.g)->∃ t cs,Blk w k t cs/\NoLimb cs:=by
 exact Iz
theorem FM{G:Prop}(h:G:=by
 rw[List.map_set];apply List.ext_getElem?;intro j;rw[List.getElem?_set];by_cases aN:i=j
 ·subst aN
  rw[Gx rfl,Gx (by simpa using hi),List.getElem?_map,hr];rfl
 rw[Gw aN]):G:=h
theorem MatB.set_(h:MatB tS tF w go L){i:Nat}{r:RF}(hr:L[i]?=some r){k:Nat}(hk:k<r.q.length){na:Bool}{A:Option Addr}{n c:Nat}{nb:Bool}{B:Option Addr}{m d:Nat}{x:Rat}(hf:Fr w na A n c nb B m d x) :
    MatB tS tF (Zgg w r.g k na A n c nb B m d) go (L.set i ⟨r.g,r.c,r.q.set k x⟩):=by
 have y:=h.ne hr;have u:=λ{j:Nat} {s:RF} (hs:L[j]?=some s) (aN:j≠i)=>h.ne2 hs hr aN;have f:=h.row hr;have hi:=(List.getElem?_eq_some_iff.1 hr).1;obtain⟨⟨zs,h1⟩,h2,h3⟩:=h;refine⟨⟨zs,?_⟩,λs hs=>?_,?_⟩
 ·have e:(L.set i ⟨r.g,r.c,r.q.set k x⟩).map RF.rs=L.map RF.rs:=by
    rw[QE];apply Qu;intro j;rw[Qn];by_cases aN:i=j
    ·subst aN
     rw[Gx rfl,Gx (by simpa using hi),Qc,hr];simp[RF.rs]
    rw[Gw aN]
  rw[e];exact Zj9 h1 y
 ·obtain⟨j,hj,C⟩:=QB hs
  have o:(L.set i ⟨r.g,r.c,r.q.set k x⟩)[j]?=some s:=by rw[Qd hj,C]
  rw[Qn]at o;by_cases aN:i=j
  ·subst aN
   rw[Gx rfl,Gx hi]at o;cases o;exact⟨f.1.set_ hk hf,by simpa using f.2.1,f.2.2⟩
  rw[Gw aN]at o;have:=h2 s (Qi o);exact⟨this.1.other (u o (QJ aN)) f.1.box,this.2⟩
 have e:(L.set i ⟨r.g,r.c,r.q.set k x⟩).map RF.g=L.map RF.g:=by
   exact FM
 rw[e];exact h3
theorem Z0j{α:Type}{l:List α}{i j:Nat}{x y:α}(hx:l[i]?=some x)(hy:l[j]?=some y):Zag l i j=(l.set i y).set j x:=by unfold Zag;rw[hx,hy]
theorem Zle{α β:Type}(f:α->β)(l:List α)(i j:Nat):(Zag l i j).map f=Zag (l.map f) i j:=by
 unfold Zag;rw[Qc,Qc];cases l[i]? with
 | none=>rfl
 | some x=>cases l[j]? with
  | none=>rfl
  | some y=>simp[QE]
theorem Zi8{α:Type}(l:List α)(i j:Nat):∀ x,x ∈ Zag l i j->x ∈ l:=by
 intro x hx;unfold Zag at hx
 split at hx
 ·rename_i a b ha hb
  rcases Qx hx with hx|rfl
  ·rcases Qx hx with hx|rfl
   exact hx;exact Qi hb
  exact Qi ha
 exact hx
theorem Zts{l:List Nat}(h:l.Nodup){i j:Nat}(hi:i<l.length)(hj:j<l.length):(Zag l i j).Nodup:=by
 unfold List.Nodup;rw[List.pairwise_iff_getElem];intro a b ha hb o e;rw[Zef]at ha hb;have h1:(Zag l i j)[a]?=(Zag l i j)[b]?:=by rw[Qd (by rw[Zef];exact ha),Qd (by rw[Zef];exact hb),e]
 rw[Zd1 hi hj,Zd1 hi hj]at h1;have f:swI i j a<l.length:=Zhy hi hj ha;have:=(List.getElem?_inj f h).1 h1;have h2:swI i j (swI i j a)=swI i j (swI i j b):=by rw[this]
 rw[Zqw,Zqw]at h2;omega
theorem MatB.keptG{G:Nat->Prop}(h:MatB tS tF w go L)(hk:Kept G w w')(hg:¬ G go)(hgs:∀ r ∈ L,¬ G r.g)(hG:∀ k,G k->∃ t cs,Blk w k t cs/\NoLimb cs):MatB tS tF w' go L:=by
 obtain⟨⟨zs,h1⟩,h2,h3⟩:=h;refine⟨⟨zs,hk.blk h1 hg⟩,λr hr=>⟨?_,(h2 r hr).2⟩,h3⟩;obtain⟨es,fs,q1,q2,q3⟩:=(h2 r hr).1;exact⟨es,fs,hk.blk q1 (hgs r hr),λe he=>⟨hk.wd (q2 e he).1 hG,hk.wd (q2 e he).2 hG⟩,q3⟩
end
def Zdi(L:List RF)(i:Nat):List Rat:=(L[i]?.map RF.q).getD []
theorem Zgk{L:List RF}{i:Nat}{r:RF}(h:L[i]?=some r):Zdi L i=r.q:=by unfold Zdi;rw[h];rfl
theorem FB{G:Prop}(h:G:=by
 rw[List.getElem?_eq_getElem (show i<L.length by omega),List.getElem?_eq_getElem hi]at this ⊢;simp only[Option.map_some,Option.getD_some]at this ⊢;rw[this]):G:=h
theorem Z1e{L:List RF}{R:List (List Rat)}(hl:L.length=R.length)(h:∀ i,i<R.length->Zdi L i=R[i]?.getD []):L.map RF.q=R:=by
 apply Qu;intro i;rw[Qc];by_cases hi:i<R.length
 ·have:=h i hi
  unfold Zdi at this;exact FB
 rw[Qq Gk,Qq Gk];rfl
theorem Zn0(L:List RF)(i:Nat):Zdi L i=(L.map RF.q)[i]?.getD []:=by unfold Zdi;rw[Qc]
theorem Zji{R:List (List Rat)}{r col i:Nat}(hi:i<R.length):(Zbv R r col)[i]?.getD []=if i<=r then R[i]?.getD []else Zoi (R[r]?.getD []) (R[i]?.getD []) col:=by
 unfold Zbv;rw[Qc,QC hi];rfl
theorem IK{G:Prop}(h:G:=by
 rw[List.getElem?_eq_none Gk,List.getElem?_eq_none (l:=List.range _) (by simpa using ht)];rfl):G:=h
theorem rowR_eq{p row q:List Rat}{col:Nat}(hl:q.length=row.length)(h:∀ t,q[t]?.getD 0=if col<=t/\t<row.length then row[t]?.getD 0-row[col]?.getD 0/p[col]?.getD 0*p[t]?.getD 0 else row[t]?.getD 0):q=Zoi p row col:=by
 apply Qu;intro t;unfold Zoi;rw[Qc];have:=h t;by_cases ht:t<row.length
 ·rw[QC ht]
  rw[Qd (show t<q.length by omega)]at this ⊢;simp only[Option.map_some,QF]at this ⊢;rw[this];by_cases hc:t<col;rw[Gx hc,Gw Gk];rw[Gw hc,Gx Gk]
 exact IK
theorem Z0b{row q:List Rat}{col k:Nat}{x:Rat}{f:Nat->Rat}(hl:q.length=row.length)(hk:col<=k)(hkl:k<row.length)(hx:x=f k)(h:∀ t,q[t]?.getD 0=if col<=t/\t<k then f t else row[t]?.getD 0) :
    ∀ t,(q.set k x)[t]?.getD 0=if col<=t/\t<k+1 then f t else row[t]?.getD 0:=by
 intro t;rw[Qn];by_cases ht:k=t
 ·subst ht
  rw[Gx rfl,Gx Gk,Gx Gk,hx];rfl
 rw[Gw ht,h t];by_cases h1:col<=t/\t<k;rw[Gx h1,Gx Gk];rw[Gw h1,Gw Gk]
section
variable{a b:Rat}{i j k l:Nat}
theorem SmN.mulN(h:SmN i j a)(g:SmN k l b):SmN (i+k) (j+l) (a*b):=by
 rw[<- Zql a b];have hd:((a.den:Int)*(b.den:Nat))≠0:=Int.ne_of_gt (Zcj a b);refine⟨Qa (Zvn _ _ hd) ?_,Qa (Ztu _ _ hd) ?_⟩;rw[Qk];exact Zc4 h.1 g.1;rw[Qk,Qj,Qj];exact Zc4 h.2 g.2
theorem SmN.divN(h:SmN i j a)(g:SmN k l b)(h0:b≠0):SmN (i+l) (j+k) (a/b):=by
 rw[<- Zhw a b h0];have hd:=Zjg a b h0;refine⟨Qa (Zvn _ _ hd) ?_,Qa (Ztu _ _ hd) ?_⟩;rw[Qk,Qj];exact Zc4 h.1 g.2;rw[Qk,Qj];exact Zc4 h.2 g.1
end
attribute [local go_sem] Zi
theorem Zks(L:List RF)(i j:Nat):Zj (L.map RF.q) i j=(Zdi L i)[j]?.getD 0:=by unfold Zj Zdi;rw[Qc]
theorem Zb5{α:Type}{L:List α}{i:Nat}(h:i<L.length):∃ r,L[i]?=some r:=⟨_,Qd h⟩
theorem Z1d{α β:Type}{f:α->β}{L M:List α}(h:L.map f=M.map f){i:Nat}{r s:α}(hr:L[i]?=some r)(hs:M[i]?=some s):f r=f s:=by
 have h1:(L.map f)[i]?=some (f r):=by rw[Qc,hr];rfl
 have h2:(M.map f)[i]?=some (f s):=by rw[Qc,hs];rfl
 rw[h,h2]at h1;exact(Option.some.inj h1).symm
theorem Ze2{α β:Type}{f:α->β}{L:List α}{i:Nat}{r s:α}(hr:L[i]?=some r)(h:f s=f r):(L.set i s).map f=L.map f:=by
 rw[QE];apply Qu;intro j;rw[Qn]
 split
 ·rename_i hij
  subst hij;have hi:=(List.getElem?_eq_some_iff.1 hr).1;rw[Gx (by simpa using hi),Qc,hr,h];rfl
 rfl
theorem Ie{G:Prop}(h:G:=by
 rw[List.getElem?_set];by_cases h:i=j;subst h;rw[Gx rfl,Gx hi,Gx rfl];rfl;rw[Gw h,Gw (Ne.symm h)]):G:=h
theorem Zsy{L:List RF}{i j:Nat}{r:RF}(hi:i<L.length):Zdi (L.set i r) j=if j=i then r.q else Zdi L j:=by
 unfold Zdi;exact Ie
def ClrTo(L L2:List RF)(r col i:Nat):Prop:=∀ j,j<L.length->Zdi L2 j=if j<=r \/ i<=j then Zdi L j else Zoi (Zdi L r) (Zdi L j) col
theorem FH{G:Prop}(h:G:=by
 by_cases h1:j<=r \/ i<=j;rw[Gx h1,Gx Gk];rw[Gw h1,Gw Gk]):G:=h
theorem CC{G:Prop}(h:G:=by
 by_cases ix:j=i;subst ix;rw[Gx rfl,hx,Gw Gk];rw[Gw ix];exact FH):G:=h
theorem ClrTo.step{L L2:List RF}{r col i:Nat}{x:RF}(h:ClrTo L L2 r col i)(hl:L2.length=L.length)(hi:i<L.length)(hri:r<i)(hx:x.q=Zoi (Zdi L r) (Zdi L i) col):ClrTo L (L2.set i x) r col (i+1):=by
 intro j hj;rw[Zsy Gk,h j hj];exact CC
theorem Cl{G:Prop}(h:G:=by
 by_cases h1:i<=r;rw[Gx (Or.inl h1),Gx h1];rw[Gw Gk,Gw h1]):G:=h
theorem ClrTo.done{L L2:List RF}{r col:Nat}(h:ClrTo L L2 r col L.length)(hl:L2.length=L.length):L2.map RF.q=Zbv (L.map RF.q) r col:=by
 refine Z1e (by rw[Ze8];simpa using hl) (λi hi=>?_);rw[Ze8,Qs]at hi;rw[h i hi,Zji (by simpa using hi),<- Zn0,<- Zn0];exact Cl
section
variable{P:Program}(w:World)
theorem Zau{o:Oper}{a:Act}{K:Act->World->Prop}{Q:Exit->Act->World->Prop}(s x:Operand)(t:TypeId)
    (ho:o.op=.call { callee:=.builtin .append,args:=#[s,x],argTypes:=#[t,t] })
    (base:Nat) (e:TypeId) (i:TypeInfo) (ht:P.underlying t=some (.slice e)) (hi:P.info? e=some i) (hz:i.zero=some (.slice none 0 0)) (hsi:i.size=1) (hby:i.bytes=24)
    (v:Value) (rs:List RS) (hs:a.eval s=v) (hown:RowS e w base v rs)
    (B:Nat) (A:Option Addr) (m c:Nat) (fs:List RS) (hx:a.eval x=.slice A m c) (hr:Reads w B 1 A m (Zar fs)) (hm:fs.length=m)
    (h63:rs.length+m<=1000) (hbase:base<=w.heap.size)
    (h:∀ v' w',RowS e w' base v' (rs++fs)->w.grownBy w' v.ownBlock->(∀ (A:Option Addr) (n c:Nat) (l:List Nat),Lim w A n c l->Lim w' A n c l)->K (a.put o.dst v') w'):o.wp P a w K Q:=by
 obtain⟨v',w',f,h3,h4⟩:=Znd (P:=P) w base t o.type e i ht hi hz hsi hby v rs hown B A m c fs hr hm h63 hbase;unfold Oper.wp execOp;simp only[ho,resolve,invoke,builtin,Sem.run_bind,Sem.run_pure,Result.andThen_ok,QG,List.map_cons,List.map_nil,hs,hx,f];exact h v' w' h3 h4 (λ_ _ _ _ hL=>hown.keep h4 hL)
theorem Zkq{ops:Array Oper}{rest:List Oper}{o:Oper}{a:Act}{Q:Exit->Act->World->Prop}(hgd:o.guard=none)(s x:Operand)(t:TypeId)
    (ho:o.op=.call { callee:=.builtin .append,args:=#[s,x],argTypes:=#[t,t] })
    (base:Nat) (e:TypeId) (i:TypeInfo) (ht:P.underlying t=some (.slice e)) (hi:P.info? e=some i) (hz:i.zero=some (.slice none 0 0)) (hsi:i.size=1) (hby:i.bytes=24)
    (v:Value) (rs:List RS) (hs:a.eval s=v) (hown:RowS e w base v rs)
    (B:Nat) (A:Option Addr) (m c:Nat) (fs:List RS) (hx:a.eval x=.slice A m c) (hr:Reads w B 1 A m (Zar fs)) (hm:fs.length=m)
    (h63:rs.length+m<=1000) (hbase:base<=w.heap.size)
    (h:∀ v' w',RowS e w' base v' (rs++fs)->w.grownBy w' v.ownBlock->(∀ (A:Option Addr) (n c:Nat) (l:List Nat),Lim w A n c l->Lim w' A n c l)->wpList P ops Q rest (a.put o.dst v') w'):wpList P ops Q (o::rest) a w:=
 wpList_plain hgd λ_ hK=>Zau w s x t ho base e i ht hi hz hsi hby v rs hs hown B A m c fs hx hr hm h63 hbase λv' w' h2 h3 h4=>hK _ _ (h v' w' h2 h3 h4)
end
theorem FL.reads{w:World}{A:Option Addr}{n c:Nat}{qs:List Rat}(h:FL w A n c qs):∃ fs:List FE,Reads w w.heap.size 4 A n (Zr fs)/\fs.length=n/\(∀ e ∈ fs,e.in_ w)/\fs.map FE.q=qs:=by
 obtain⟨es,h1,h2,h3,h4,h5,h6⟩:=h;refine⟨es,⟨by rw[Zt,h1],λhn=>?_⟩,h1,h4,h5⟩;obtain⟨g,o,e1,hc⟩:=h6 hn;refine⟨⟨g,o,none⟩,e1,?_,λj u hu=>?_⟩
 ·have:=(hc 0 es[0] (Qd Gk)).1
  exact Zp this
 rw[Zi]
 have hj:j<es.length*4:=by
  have:=(List.getElem?_eq_some_iff.1 hu).1
  rwa [Zt]at this
 have he:=Qd (show j/4<es.length by omega);have hg:=Zfi he;have hm:=hc (j/4) _ he;have h4:j%4=0 \/ j%4=1 \/ j%4=2 \/ j%4=3:=Gk;rcases h4 with h2|h2|h2|h2;rw[show j/4*4=j by omega]at hg hm;rw[hg.1]at hu;cases hu;exact hm.1;rw[show j/4*4+1=j by omega]at hg hm;rw[hg.2.1]at hu;cases hu;exact hm.2.1;rw[show j/4*4+2=j by omega]at hg hm;rw[hg.2.2.1]at hu;cases hu;exact hm.2.2.1;rw[show j/4*4+3=j by omega]at hg hm;rw[hg.2.2.2]at hu;cases hu;exact hm.2.2.2
theorem Ze1:(Tryz.prog.info? 41).map (λi=>(i.zero,i.size,i.bytes))=some (some (.agg #[.bool false,.slice none 0 0,.bool false,.slice none 0 0]),4,64):=by kernel_rfl
theorem Ziq:(Tryz.prog.info? 35).map (λi=>(i.zero,i.size,i.bytes))=some (some (.slice none 0 0),1,24):=by kernel_rfl
def MatO(tS tF:TypeId)(w:World)(base:Nat)(v:Value)(L:List RF):Prop:=
 RowS tS w base v (L.map RF.rs)/\(∀ r ∈ L,(FOwn tF w r.g r.q/\r.q.length<=r.c/\r.c<=maxLen)/\base<=r.g)/\(L.map RF.g).Nodup
theorem Blk.type{w:World}{g:Nat}{t t':TypeId}{cs cs':Array Value}(h:Blk w g t cs)(h':Blk w g t' cs'):t=t':=by
 unfold Blk at h h';rw[h]at h';cases h';rfl
section
variable{tS tF:TypeId}{w w':World}{base:Nat}{v v':Value}{L:List RF}
theorem MatO.nil(tS tF:TypeId)(w:World)(base:Nat):MatO tS tF w base (.slice none 0 0) []:=⟨.inl ⟨rfl,rfl⟩,λr hr=>(by cases hr),List.nodup_nil⟩
theorem MatO.kept(h:MatO tS tF w base v L)(hb:Below w.heap.size w w'):MatO tS tF w' base v L:=⟨h.1.kept hb,λr hr=>⟨⟨(h.2.1 r hr).1.1.below hb,(h.2.1 r hr).1.2⟩,(h.2.1 r hr).2⟩,h.2.2⟩
theorem RowS.ownType{rs:List RS}(h:RowS tS w base v rs){g:Nat}{cs:Array Value}(hb:Blk w g tF cs)(hne:tS≠tF):v.ownBlock≠some g:=by
 rintro e;rcases h with ⟨rfl,_⟩|⟨g',sp,rfl,_,_,h4⟩;cases e;have:g'=g:=by simpa [Value.ownBlock]using e
 subst this;exact hne (h4.type hb)
theorem FOwn.grown{g:Nat}{qs:List Rat}(h:FOwn tF w g qs)(hg:w.grownBy w' v.ownBlock)(hne:v.ownBlock≠some g)(hk:∀ (A:Option Addr) (n c:Nat) (l:List Nat),Lim w A n c l->Lim w' A n c l):FOwn tF w' g qs:=by
 obtain⟨es,zs,h1,h2,h3⟩:=h;exact⟨es,zs,(hg.block g h1.lt (λe=>hne (by first|exact e|exact e.symm))).trans h1,λe he=>(h2 e he).of_keep hk,h3⟩
theorem EO{G:Prop}(h:G:=by
 refine⟨by rw[List.map_append];exact h1,λs hs=>?_,?_⟩
 ·rcases List.mem_append.1 hs with hs|hs
  ·have:=h.2.1 s hs
   exact⟨⟨this.1.1.grown hg (ow this.1.1) hk,this.1.2⟩,this.2⟩
  rw[List.mem_singleton]at hs;subst hs;exact⟨⟨hr.1.grown hg (ow hr.1) hk,hr.2⟩,hbr⟩
 rw[List.map_append,List.nodup_append];refine⟨h.2.2,by simp,λa ha b hb=>?_⟩;obtain⟨s,hs,rfl⟩:=List.mem_map.1 ha;simp only[List.map_cons,List.map_nil,List.mem_singleton]at hb;rw[hb];exact eG s hs):G:=h
theorem MatO.snoc(h:MatO tS tF w base v L)(hne:tS≠tF){r:RF}(hr:FOwn tF w r.g r.q/\r.q.length<=r.c/\r.c<=maxLen)(hbr:base<=r.g)(eG:∀ s ∈ L,s.g≠r.g)(h1:RowS tS w' base v' (L.map RF.rs ++ [r.rs]))(hg:w.grownBy w' v.ownBlock)
    (hk:∀ (A:Option Addr) (n c:Nat) (l:List Nat),Lim w A n c l->Lim w' A n c l):MatO tS tF w' base v' (L ++ [r]):=by
 have ow:∀ {s:RF},FOwn tF w s.g s.q->v.ownBlock≠some s.g:=λhs=>by obtain⟨es,zs,q1,-,-⟩:=hs;exact h.1.ownType q1 hne
 exact EO
theorem MatO.mat(h:MatO tS tF w base v L)(hne:tS≠tF)(hl:L ≠ []):∃ go cap,v=.slice (some ⟨go,0,none⟩) L.length cap/\L.length<=cap/\cap<=maxLen/\base<=go/\MatB tS tF w go L/\∀ r ∈ L,base<=r.g:=by
 rcases h.1 with ⟨-,h2⟩|⟨go,sp,rfl,h2,h3,h4⟩;exact absurd (List.map_eq_nil_iff.1 h2) hl;refine⟨go,_,by rw[Qs],by rw[Qs];omega,h3,h2,⟨⟨_,h4⟩,λr hr=>(h.2.1 r hr).1,?_⟩,λr hr=>(h.2.1 r hr).2⟩;refine List.nodup_cons.2 ⟨λhm=>?_,h.2.2⟩;obtain⟨r,hr,e⟩:=List.mem_map.1 hm;obtain⟨es,zs,q1,-,-⟩:=(h.2.1 r hr).1.1;rw[e]at q1;exact hne (h4.type q1)
end
section
variable{tF:TypeId}{w w':World}{base:Nat}{part:List Rat}{cs:Array Value}
theorem OwnF.ownBlk{v:Value}(h:OwnF tF w base v part):∀ k,v.ownBlock=some k->∃ cs,Blk w k tF cs/\NoLimb cs/\base<=k:=λk hk=>by
 obtain⟨es,h1,h2,h3⟩:=h;rcases h1 with ⟨rfl,_⟩|⟨g',sp,rfl,h4,h5,h6⟩;cases hk;have:g'=k:=by simpa [Value.ownBlock]using hk
 subst this;exact⟨_,h6,Zcd _,h4⟩
theorem OwnF.keptG{v:Value}(h:OwnF tF w base v part){g':Nat}{t':TypeId}(hb:Blk w g' t' cs)(hn:NoLimb cs)(hne:v.ownBlock≠some g')(hk:Kept (λk=>k=g') w w'):OwnF tF w' base v part:=by
 have hG:∀ k,k=g'->∃ t cs,Blk w k t cs/\NoLimb cs:=λk hk=>⟨t',cs,hk▸hb,hn⟩;obtain⟨es,h1,h2,h3⟩:=h;refine⟨es,?_,λe he=>⟨hk.wd (h2 e he).1 hG,hk.wd (h2 e he).2 hG⟩,h3⟩;rcases h1 with h|⟨g2,sp,rfl,h4,h5,h6⟩;exact .inl h;exact .inr ⟨g2,sp,rfl,h4,h5,hk.blk h6 (λe=>hne (by rw[<- e];rfl))⟩
end
theorem RowS.mfl{tS:TypeId}{w:World}{base:Nat}{v:Value}{rs:List RS}{Q:List (List Rat)}(h:RowS tS w base v rs)(hl:rs.length=Q.length)(hF:∀ (i:Nat) (r:RS),rs[i]?=some r->FL w r.A r.n r.c (Q[i]?.getD [])):∃ A c,v=.slice A rs.length c/\MFL w A rs.length c Q:=by
 rcases h with ⟨rfl,rfl⟩|⟨g,sp,rfl,h2,h3,h4⟩;exact⟨none,0,rfl,hl.symm,Qb _,Qv _,λh=>absurd h Gh⟩;refine⟨_,_,rfl,hl.symm,by omega,h3,λ_=>⟨g,0,rfl,λk q hq=>?_⟩⟩;have hk:k<rs.length:=by rw[hl];exact(List.getElem?_eq_some_iff.1 hq).1
 have he:=Qd hk;refine⟨rs[k].A,rs[k].n,rs[k].c,?_,?_⟩
 ·rw[Nat.zero_add,h4.cell]
  exact Zb8 (e:=rs[k]) (by rw[Qh hk];exact he)
 have:=hF k _ he;rw[hq]at this;exact this
theorem Fr.pos_iff{w:World}{na:Bool}{A:Option Addr}{n c:Nat}{nb:Bool}{B:Option Addr}{m d:Nat}{r:Rat}(h:Fr w na A n c nb B m d r):(na=false/\n≠0) ↔ 0<r:=by
 have h1:=h.1.1;have h2:=h.zero_iff;constructor
 ·rintro⟨h3,h4⟩
  rw[h3]at h1;have h5:¬ r.num<0:=by simpa using h1.symm
  have h6:r.num≠0:=λe=>h4 (h2.2 (Rat.num_eq_zero.1 e));have h7:0<=r.num:=Gk;have h8:0<=r:=Rat.num_nonneg.1 h7;have h9:(0:Rat)≠r:=λe=>h6 (by rw[<- e];rfl);exact Rat.lt_of_le_of_ne h8 h9
 intro h3;have h5:=Rat.num_nonneg.2 (Rat.le_of_lt h3);refine⟨by rw[h1];exact Gu Gk,λe=>?_⟩;have:=h2.1 e;rw[this]at h3;exact absurd h3 Gj
section
variable{P:Program}(w:World)
theorem EV{G:Prop}(h:G:=by
 have hf:=run_firstCells_some (P:=P) w i.size 0 ad 0 c [] Gh Gh;rcases ai with ⟨rfl,rfl⟩|⟨g,sp,rfl,h2,h3,h4⟩
 ·refine⟨.slice none 0 0,w,?_,.inl ⟨rfl,rfl⟩,World.grownBy.refl w _,.inl rfl⟩
  exact CH
 refine⟨_,w,?_,.inr ⟨g,sp,rfl,h2,h3,h4⟩,World.grownBy.refl w _,.inl rfl⟩;exact CJ):G:=h
theorem Zlf(base:Nat)(t ty e:TypeId)(i:TypeInfo)(ht:P.underlying t=some (.slice e))(hi:P.info? e=some i)(hz:i.zero=some (.agg #[.bool false,.slice none 0 0,.bool false,.slice none 0 0]))
    (hs:i.size=4) (hby:i.bytes=64) (v:Value) (es:List FE) (ai:RowF e w base v es)
    (B:Nat) (A:Option Addr) (m c:Nat) (fs:List FE) (hr:Reads w B 4 A m (Zr fs)) (hm:fs.length=m) (h63:es.length+m<=1000) (hbase:base<=w.heap.size) :
    ∃ v' w',(Builtin.append_ #[t,t] ty #[v,.slice A m c]).run P w=.ok v' w'/\RowF e w' base v' (es++fs)/\w.grownBy w' v.ownBlock/\(v'.ownBlock=v.ownBlock \/ ∀ k,v'.ownBlock=some k->w.heap.size<=k):=by
 rcases Nat.eq_zero_or_pos m with h0|h0
 ·subst h0
  obtain rfl:fs=[]:=List.eq_nil_of_length_eq_zero hm;rw[List.append_nil];rcases A with _|ad;exact⟨v,w,Zci w base t ty e i 4 ht hi v _ _ ai.own c,ai,World.grownBy.refl w _,.inl rfl⟩;exact EV
 obtain⟨ad,rfl,_,hc⟩:=hr.2 h0;have hl:(Zr fs).length=m*i.size:=by rw[Zt,hm,hs]
 have dS:es.length*i.size=(Zr es).length:=by rw[Zt,hs]
 rcases ai with ⟨rfl,rfl⟩|⟨g,sp,rfl,h2,h3,h4⟩
 ·have f:=run_append_nil (P:=P) w t ty e i _ ht hi hz ad m c (Zr fs) hl hc h0 Gk (by rw[hby];omega)
  have h:=grownCap_ge w m 0 e;have o:=grownCap_le_maxLen w m 0 e (by unfold maxLen;simp only[List.length_nil]at h63;omega);refine⟨_,_,f,.inr ⟨w.heap.size,grownCap w m 0 e-m,?_,hbase,?_,?_⟩,⟨rfl,rfl,rfl,by simp,λk hk _=>Below.heap_alloc w.drew _ k hk⟩,.inr (λk hk=>by first|(simp[Value.ownBlock]at hk;omega)|(cases hk;exact Qb _))⟩;rw[QH,hm,Qr h];rw[QH,hm,Qr h];exact o;exact EX
 by_cases hroom:m<=sp
 ·have f:=run_append_room (P:=P) w t ty e i ht hi g es.length (es.length+sp) _ h4 ad m c (Zr fs) hl hc (Zjn fs) Gk (by rw[dS,Zt,Zt];simp[Z0,Zt];omega)
  refine⟨_,_,f,.inr ⟨g,sp-m,?_,h2,?_,?_⟩,⟨rfl,rfl,rfl,by simp[World.setRow],λk _ hk=>setRow_other w g k _ (λe'=>hk (by simp[Value.ownBlock,e']))⟩,.inl rfl⟩;rw[Ql,hm,show es.length+m+(sp-m)=es.length+sp by omega];rw[Ql,hm];omega;exact EK
 have y:∀ j u,(Zr es)[j]?=some u->w.cell? ((⟨g,0,none⟩:Addr).add j)=some u:=λj u hu=>by
   rw[Zi,Nat.zero_add,h4.cell];simp only[Z0,List.getElem?_toArray,Zap];exact Fg
 have f:=run_append_grow (P:=P) w t ty e i _ ht hi hz ⟨g,0,none⟩ es.length (es.length+sp) (Zr es) dS.symm y ad m c (Zr fs) hl hc Gk Gk (growslice_fits Gk (by rw[hby];omega));have h:=grownCap_ge w (es.length+m) (es.length+sp) e;have o:=grownCap_le_maxLen w (es.length+m) (es.length+sp) e (by unfold maxLen;omega);refine⟨_,_,f,.inr ⟨w.heap.size,grownCap w (es.length+m) (es.length+sp) e-(es.length+m),?_,hbase,?_,?_⟩,⟨rfl,rfl,rfl,by simp,λk hk _=>Below.heap_alloc w.drew _ k hk⟩,.inr (λk hk=>by first|(simp[Value.ownBlock]at hk;omega)|(cases hk;exact Qb _))⟩;rw[Ql,hm,Qr h];rw[Ql,hm,Qr h];exact o;exact Eg
theorem Zbi{o:Oper}{a:Act}{K:Act->World->Prop}{Q:Exit->Act->World->Prop}(s x:Operand)(t:TypeId)
    (ho:o.op=.call { callee:=.builtin .append,args:=#[s,x],argTypes:=#[t,t] })
    (base:Nat) (e:TypeId) (i:TypeInfo) (ht:P.underlying t=some (.slice e)) (hi:P.info? e=some i) (hz:i.zero=some (.agg #[.bool false,.slice none 0 0,.bool false,.slice none 0 0])) (hsi:i.size=4) (hby:i.bytes=64)
    (v:Value) (qs:List Rat) (hs:a.eval s=v) (hown:OwnF e w base v qs)
    (B:Nat) (A:Option Addr) (m c:Nat) (fs:List FE) (hx:a.eval x=.slice A m c) (hr:Reads w B 4 A m (Zr fs)) (hm:fs.length=m) (iw:∀ e ∈ fs,e.in_ w)
    (h63:qs.length+m<=1000) (hbase:base<=w.heap.size)
    (h:∀ v' w',OwnF e w' base v' (qs++fs.map FE.q)->w.grownBy w' v.ownBlock->(∀ (A:Option Addr) (n c:Nat) (l:List Nat),Lim w A n c l->Lim w' A n c l)->(v'.ownBlock=v.ownBlock \/ ∀ k,v'.ownBlock=some k->w.heap.size<=k)->K (a.put o.dst v') w'):o.wp P a w K Q:=by
 obtain⟨es,h1,h2,rfl⟩:=hown;rw[Qs]at h63;obtain⟨v',w',f,h3,h4,h5⟩:=Zlf (P:=P) w base t o.type e i ht hi hz hsi hby v es h1 B A m c fs hr hm h63 hbase;unfold Oper.wp execOp;simp only[ho,resolve,invoke,builtin,Sem.run_bind,Sem.run_pure,Result.andThen_ok,QG,List.map_cons,List.map_nil,hs,hx,f];have hk:∀ (A:Option Addr) (n c:Nat) (l:List Nat),Lim w A n c l->Lim w' A n c l:=λ_ _ _ _ hL=>h1.keep h4 hL;refine h v' w' ⟨es++fs,h3,λe he=>?_,by rw[List.map_append]⟩ h4 hk h5;exact IC
end
def MatA(tS tF:TypeId)(w:World)(base go:Nat)(rs:List RS)(Q:List (List Rat)):Prop:=
 (∃ zs,Blk w go tS (Z7 (rs++zs)))/\base<=go/\rs.length=Q.length/\(∀ (i:Nat) (r:RS),rs[i]?=some r->OwnF tF w base r.val (Q[i]?.getD [])) /\
  ∀ (i j:Nat) (r s:RS) (k:Nat),rs[i]?=some r->rs[j]?=some s->i≠j->r.val.ownBlock=some k->s.val.ownBlock≠some k
section
variable{tS tF:TypeId}{w w':World}{base go:Nat}{rs:List RS}{Q:List (List Rat)}
theorem MatA.below(h:MatA tS tF w base go rs Q)(hb:Below w.heap.size w w'):MatA tS tF w' base go rs Q:=by
 obtain⟨⟨zs,h1⟩,h2,h3,h4,h5⟩:=h;exact⟨⟨zs,Ze hb h1⟩,h2,h3,λi r hr=>(h4 i r hr).kept hb,h5⟩
theorem MatA.cell(h:MatA tS tF w base go rs Q){i:Nat}{r:RS}(hr:rs[i]?=some r):w.cell? ⟨go,i,none⟩=some (.slice r.A r.n r.c)/\w.frozen? ⟨go,i,none⟩=false:=by
 obtain⟨⟨zs,h1⟩,-⟩:=h;refine⟨?_,h1.frozen i⟩;rw[h1.cell];exact Zb8 (by rw[Qh (List.getElem?_eq_some_iff.1 hr).1];exact hr)
theorem OwnF.rsn{r:RS}{q:List Rat}(h:OwnF tF w base r.val q):r.n=q.length/\FL w r.A r.n r.c q:=by
 obtain⟨A,c,e,hf⟩:=h.fl;simp only[RS.val,Value.slice.injEq]at e;obtain⟨rfl,e2,rfl⟩:=e;refine⟨e2,?_⟩;rw[e2];exact hf
theorem MatA.app(h:MatA tS tF w base go rs Q)(hts:tS≠tF){i:Nat}{r r':RS}{q':List Rat}(hr:rs[i]?=some r)(hg:w.grownBy w' r.val.ownBlock)(ho:OwnF tF w' base r'.val q')(hk:∀ (A:Option Addr) (n c:Nat) (l:List Nat),Lim w A n c l->Lim w' A n c l)
    (hw:r'.val.ownBlock=r.val.ownBlock \/ ∀ k,r'.val.ownBlock=some k->w.heap.size<=k):MatA tS tF (w'.setCell ⟨go,i,none⟩ r'.val) base go (rs.set i r') (Q.set i q'):=by
 obtain⟨⟨zs,h1⟩,h2,h3,h4,h5⟩:=h;have hi:i<rs.length:=(List.getElem?_eq_some_iff.1 hr).1
 have u:∀ (v:Value) (q:List Rat),OwnF tF w base v q->v.ownBlock≠some go:=λv q hv e=>by
  obtain⟨cs,a,-,-⟩:=hv.ownBlk go e;exact hts (h1.type a)
 have b1:Blk w' go tS (Z7 (rs++zs)):=(hg.block go h1.lt (λe=>u _ _ (h4 i r hr) e.symm)).trans h1;have f:=Zbe (rs++zs);have kS:Kept (λk=>k=go) w' (w'.setCell ⟨go,i,none⟩ r'.val):=Kept.set_ (G:=λk=>k=go) (Kept.refl _ _) (p:=⟨go,i,none⟩) (.inl rfl) _
 have y:r'.val.ownBlock≠some go:=λe=>by
  obtain⟨cs,a,-,-⟩:=ho.ownBlk go e;exact hts (b1.type a)
 refine⟨⟨zs,?_⟩,h2,by rw[QI,QI];exact h3,λj s hs=>?_,λj l s t k hs ht hjl hsk=>?_⟩
 ·have:=b1.set_ i r'.val
  rw[show r'.val=.slice r'.A r'.n r'.c from rfl,Zdz r']at this;rw[List.set_append_left _ _ hi]at this;exact this
 ·rw[Qn]at hs
  by_cases hij:i=j
  ·subst hij
   rw[Gx rfl,Gx hi]at hs;cases hs;rw[List.getElem?_set_self Gk,QF];exact ho.keptG b1 f y kS
  rw[Gw hij]at hs;rw[List.getElem?_set_ne hij];have o:=h4 j s hs;have ne:∀ k,s.val.ownBlock=some k->r.val.ownBlock≠some k:=λk e=>h5 j i s r k hs hr (QJ hij) e
  have o2:OwnF tF w' base s.val (Q[j]?.getD []):=by
   obtain⟨es,e1,e2,e3⟩:=o;refine⟨es,?_,λe he=>⟨⟨(e2 e he).1.1,(e2 e he).1.2.1,hk _ _ _ _ (e2 e he).1.2.2⟩,⟨(e2 e he).2.1,(e2 e he).2.2.1,hk _ _ _ _ (e2 e he).2.2.2⟩⟩,e3⟩;rcases e1 with e1|⟨g2,sp,e4,e5,e6,e7⟩;exact .inl e1;exact .inr ⟨g2,sp,e4,e5,e6,(hg.block g2 e7.lt (λe=>ne g2 (by rw[e4];rfl) e.symm)).trans e7⟩
  exact o2.keptG b1 f (u _ _ o) kS
 have fresh:∀ (j:Nat) (s:RS) (k:Nat),j≠i->rs[j]?=some s->s.val.ownBlock=some k->r'.val.ownBlock≠some k:=λj s k hji hs hsk e=>by
   obtain⟨cs,a,-,-⟩:=(h4 j s hs).ownBlk k hsk;have:=a.lt;rcases hw with hw|hw;exact h5 j i s r k hs hr hji hsk (by rw[<- hw];exact e);have:=hw k e;omega
 rw[Qn]at hs ht;by_cases h6:i=j
 ·subst h6
  rw[Gx rfl,Gx hi]at hs;rw[Gw hjl]at ht;cases hs;intro e;exact fresh l t k (QJ hjl) ht e hsk
 rw[Gw h6]at hs;by_cases h7:i=l
 ·subst h7
  rw[Gx rfl,Gx hi]at ht;cases ht;exact fresh j s k (QJ h6) hs hsk
 rw[Gw h7]at ht;exact h5 j l s t k hs ht hjl hsk
end
def MatOA(tS tF:TypeId)(w:World)(base:Nat)(v:Value)(rs:List RS)(Q:List (List Rat)):Prop:=
 RowS tS w base v rs/\rs.length=Q.length/\(∀ (i:Nat) (r:RS),rs[i]?=some r->OwnF tF w base r.val (Q[i]?.getD [])) /\
  ∀ (i j:Nat) (r s:RS) (k:Nat),rs[i]?=some r->rs[j]?=some s->i≠j->r.val.ownBlock=some k->s.val.ownBlock≠some k
section
variable{tS tF:TypeId}{w w':World}{base:Nat}{v v':Value}{rs:List RS}{Q:List (List Rat)}
theorem MatOA.nil(tS tF:TypeId)(w:World)(base:Nat):MatOA tS tF w base (.slice none 0 0) [] []:=⟨.inl ⟨rfl,rfl⟩,rfl,λi r hr=>(by cases hr),λi j r s k hr=>(by cases hr)⟩
theorem MatOA.kept(h:MatOA tS tF w base v rs Q)(hb:Below w.heap.size w w'):MatOA tS tF w' base v rs Q:=⟨h.1.kept hb,h.2.1,λi r hr=>(h.2.2.1 i r hr).kept hb,h.2.2.2⟩
theorem OwnF.grownT(hts:tS≠tF){q:List Rat}{b:Nat}{u:Value}(h:OwnF tF w b u q){rs:List RS}(hv:RowS tS w base v rs)(hg:w.grownBy w' v.ownBlock)(hk:∀ (A:Option Addr) (n c:Nat) (l:List Nat),Lim w A n c l->Lim w' A n c l):OwnF tF w' b u q:=by
 obtain⟨es,e1,e2,e3⟩:=h;refine⟨es,?_,λe he=>⟨⟨(e2 e he).1.1,(e2 e he).1.2.1,hk _ _ _ _ (e2 e he).1.2.2⟩,⟨(e2 e he).2.1,(e2 e he).2.2.1,hk _ _ _ _ (e2 e he).2.2.2⟩⟩,e3⟩;rcases e1 with e1|⟨g2,sp,e4,e5,e6,e7⟩;exact .inl e1;exact .inr ⟨g2,sp,e4,e5,e6,(hg.block g2 e7.lt (λe=>hv.ownType e7 hts e.symm)).trans e7⟩
theorem OwnF.lower{b b':Nat}{u:Value}{q:List Rat}(h:OwnF tF w b u q)(hb:b'<=b):OwnF tF w b' u q:=by
 obtain⟨es,e1,e2,e3⟩:=h;refine⟨es,?_,e2,e3⟩;rcases e1 with e1|⟨g2,sp,e4,e5,e6,e7⟩;exact .inl e1;exact .inr ⟨g2,sp,e4,Qe hb e5,e6,e7⟩
theorem MatOA.snoc(h:MatOA tS tF w base v rs Q)(hts:tS≠tF){r:RS}{q:List Rat}{b:Nat}(ho:OwnF tF w b r.val q)(hb:base<=b)(hlt:∀ s ∈ rs,∀ k,s.val.ownBlock=some k->k<b)(h1:RowS tS w' base v' (rs ++ [r]))(hg:w.grownBy w' v.ownBlock)(hk:∀ (A:Option Addr) (n c:Nat) (l:List Nat),Lim w A n c l->Lim w' A n c l) :
    MatOA tS tF w' base v' (rs ++ [r]) (Q ++ [q]):=by
 obtain⟨a1,a2,a3,a4⟩:=h;refine⟨h1,by simp[a2],λi s hs=>?_,λi j s t k hs ht hij hsk=>?_⟩
 ·by_cases hi:i<rs.length
  ·rw[Qh hi]at hs
   rw[Qh Gk];exact(a3 i s hs).grownT hts a1 hg hk
  have hl:=(List.getElem?_eq_some_iff.1 hs).1;rw[Ql,QA]at hl;obtain rfl:i=rs.length:=Gk;rw[Qm (Qb _),Qz]at hs;cases hs;rw[Qm Gk,a2,Qz];exact(ho.lower hb).grownT hts a1 hg hk
 have new:∀ (x:RS) (k:Nat),x ∈ rs->x.val.ownBlock=some k->r.val.ownBlock≠some k:=λx k hx hxk e=>by
   have h2:=hlt x hx k hxk;obtain⟨cs,-,-,h3⟩:=ho.ownBlk k e;omega
 have o:=(List.getElem?_eq_some_iff.1 hs).1;have f:=(List.getElem?_eq_some_iff.1 ht).1;rw[Ql,QA]at o f;by_cases hi:i<rs.length
 ·rw[Qh hi]at hs
  by_cases hj:j<rs.length
  ·rw[Qh hj]at ht
   exact a4 i j s t k hs ht hij hsk
  obtain rfl:j=rs.length:=Gk;rw[Qm (Qb _),Qz]at ht;cases ht;exact new s k (Qi hs) hsk
 obtain rfl:i=rs.length:=Gk;rw[Qm (Qb _),Qz]at hs;cases hs;rw[Qh Gk]at ht;exact λe=>new t k (Qi ht) e hsk
end
theorem Zdg{P:Program}{ops:Array Oper}{Q:Exit->Act->World->Prop}{md:Region.Mode}{L:List Nat}{S:World->Prop}{i j:Nat}{oi oj:Oper}{fuel:Nat}{listed:Array Bool}{a:Act}{w:World}(hi:ops[i]?=some oi)(hj:ops[j]?=some oj)(hr:Region.ready md ops listed=[i,j])
    (h1:∀ K':Act->World->Prop,Shut (∀ a w,(Zc0 L (listed.setIfInBounds i true)=true->S w)->Zab P md ops Q L S fuel (listed.setIfInBounds i true) a w->K' a w)->if Region.wanted oi (yielded ops a.tmps)=true then Oper.wp P oi a w K' Q else K' (a.put oi.dst undef) w)
    (h2:∀ K':Act->World->Prop,Shut (∀ a w,(Zc0 L (listed.setIfInBounds j true)=true->S w)->Zab P md ops Q L S fuel (listed.setIfInBounds j true) a w->K' a w)->if Region.wanted oj (yielded ops a.tmps)=true then Oper.wp P oj a w K' Q else K' (a.put oj.dst undef) w) :
    Zab P md ops Q L S (fuel+1) listed a w:=
 ⟨(λh0=>by rw[h0]at hr;cases hr),λk hk=>by
  rw[hr]at hk;rcases List.mem_cons.1 hk with e|e;subst e;exact wpOp_step hi (λK' hK=>h1 K' (λa w hS hW=>hK a w ⟨hS,hW⟩));rw[Qw]at e;subst e;exact wpOp_step hj (λK' hK=>h2 K' (λa w hS hW=>hK a w ⟨hS,hW⟩))⟩
def FacM(tS tN:TypeId)(w:World)(base:Nat)(v1 v2:Value)(rs:List RS)(Q:List (List Rat))(ds:List Rat):Prop:=
 MatOA tS tN w base v1 rs Q/\OwnF tN w base v2 ds/\∀ r ∈ rs,∀ k,r.val.ownBlock=some k->v2.ownBlock≠some k
section
variable{tS tN:TypeId}{w w':World}{base:Nat}{v v1 v1' v2 v2':Value}{rs:List RS}{Q:List (List Rat)}{ds qs:List Rat}
theorem OwnF.blt(h:OwnF tN w base v qs):∀ k,v.ownBlock=some k->k<w.heap.size:=λk hk=>by
 obtain⟨cs,hb,-,-⟩:=h.ownBlk k hk;exact hb.lt
theorem OwnF.grownO{b:Nat}(h:OwnF tN w b v qs)(hg:w.grownBy w' v2.ownBlock)(hne:∀ k,v.ownBlock=some k->v2.ownBlock≠some k)(hk:∀ (A:Option Addr) (n c:Nat) (l:List Nat),Lim w A n c l->Lim w' A n c l):OwnF tN w' b v qs:=by
 obtain⟨es,e1,e2,e3⟩:=h;refine⟨es,?_,λe he=>(e2 e he).of_keep hk,e3⟩;rcases e1 with e1|⟨g2,sp,e4,e5,e6,e7⟩;exact .inl e1;exact .inr ⟨g2,sp,e4,e5,e6,(hg.block g2 e7.lt (λe=>hne g2 (by rw[e4];rfl) (by first|exact e|exact e.symm))).trans e7⟩
theorem RowS.grownR{rs:List RS}(h:RowS tS w base v1 rs)(hO:OwnF tN w base v2 ds)(hts:tS≠tN)(hg:w.grownBy w' v2.ownBlock):RowS tS w' base v1 rs:=by
 rcases h with h|⟨g',sp,h1,h2,h3,h4⟩;exact .inl h;refine .inr ⟨g',sp,h1,h2,h3,(hg.block g' h4.lt (λe=>?_)).trans h4⟩;obtain⟨cs,a,-,-⟩:=hO.ownBlk g' (by first|exact e|exact e.symm);exact hts (h4.type a)
theorem RowS.keptG{rs:List RS}(h:RowS tS w base v1 rs){g:Nat}(hg:g<base)(hk:Kept (λk=>k=g) w w'):RowS tS w' base v1 rs:=by
 rcases h with h|⟨g',sp,h1,h2,h3,h4⟩;exact .inl h;exact .inr ⟨g',sp,h1,h2,h3,hk.blk h4 Gk⟩
theorem FacM.nil(tS tN:TypeId)(w:World)(base:Nat):FacM tS tN w base (.slice none 0 0) (.slice none 0 0) [] [] []:=⟨MatOA.nil _ _ _ _,OwnF.nil _ _ _,λr hr=>(by cases hr)⟩
theorem FacM.kept(h:FacM tS tN w base v1 v2 rs Q ds)(hb:Below w.heap.size w w'):FacM tS tN w' base v1 v2 rs Q ds:=⟨h.1.kept hb,h.2.1.kept hb,h.2.2⟩
theorem FacM.rlt(h:FacM tS tN w base v1 v2 rs Q ds):∀ s ∈ rs,∀ k,s.val.ownBlock=some k->k<w.heap.size:=λs hs k hk=>by
 obtain⟨i,hi,e⟩:=QB hs;exact(h.1.2.2.1 i s (by rw[Qd hi,e])).blt k hk
theorem FacM.snocL(h:FacM tS tN w base v1 v2 rs Q ds)(hts:tS≠tN){r:RS}{q:List Rat}{b:Nat}(ho:OwnF tN w b r.val q)(hb:base<=b)(hlt:∀ s ∈ rs,∀ k,s.val.ownBlock=some k->k<b)(hl2:∀ k,v2.ownBlock=some k->k<b)(h1:RowS tS w' base v1' (rs ++ [r]))(hg:w.grownBy w' v1.ownBlock)(hk:∀ (A:Option Addr) (n c:Nat) (l:List Nat),Lim w A n c l->Lim w' A n c l) :
    FacM tS tN w' base v1' v2 (rs ++ [r]) (Q ++ [q]) ds:=by
 refine⟨h.1.snoc hts ho hb hlt h1 hg hk,h.2.1.grownT hts h.1.1 hg hk,λs hs k hsk e=>?_⟩;rcases List.mem_append.1 hs with hs|hs;exact h.2.2 s hs k hsk e;rw[Qw]at hs;subst hs;have h2:=ho.row_ge k hsk;have h3:=hl2 k e;omega
theorem FacM.snocD(h:FacM tS tN w base v1 v2 rs Q ds)(hts:tS≠tN){qs:List Rat}(hO:OwnF tN w' base v2' qs)(hg:w.grownBy w' v2.ownBlock)(hk:∀ (A:Option Addr) (n c:Nat) (l:List Nat),Lim w A n c l->Lim w' A n c l)
    (hw:v2'.ownBlock=v2.ownBlock \/ ∀ k,v2'.ownBlock=some k->w.heap.size<=k):FacM tS tN w' base v1 v2' rs Q qs:=by
 refine⟨⟨h.1.1.grownR h.2.1 hts hg,h.1.2.1,λi r hr=>(h.1.2.2.1 i r hr).grownO hg (λk hk=>h.2.2 r (Qi hr) k hk) hk,h.1.2.2.2⟩,hO,λs hs k hsk e=>?_⟩;rcases hw with hw|hw;exact h.2.2 s hs k hsk (by rw[<- hw];exact e);have h2:=hw k e;have h3:=h.rlt s hs k hsk;omega
theorem FacM.box(h:FacM tS tN w base v1 v2 rs Q ds){g:Nat}{t:TypeId}{cs:Array Value}(hb:Blk w g t cs)(hn:NoLimb cs)(hg:g<base)(hk:Kept (λk=>k=g) w w'):FacM tS tN w' base v1 v2 rs Q ds:=
 ⟨⟨h.1.1.keptG hg hk,h.1.2.1,λi r hr=>(h.1.2.2.1 i r hr).keptG hb hn (λe=>by have:=(h.1.2.2.1 i r hr).row_ge g e;omega) hk,h.1.2.2.2⟩,h.2.1.keptG hb hn (λe=>by have:=h.2.1.row_ge g e;omega) hk,h.2.2⟩
theorem MatOA.mflA(h:MatOA tS tN w base v rs Q):∃ A c,v=.slice A Q.length c/\MFL w A Q.length c Q:=by
 obtain⟨A,c,e,hM⟩:=h.1.mfl h.2.1 (λi r hr=>(h.2.2.1 i r hr).rsn.2);rw[h.2.1]at e hM;exact⟨A,c,e,hM⟩
end
theorem FL.pair2{w:World}{g:Nat}{t:TypeId}{xn:Bool}{xA:Option Addr}{xk xc:Nat}{xm:Bool}{xB:Option Addr}{xj xd:Nat}{yn:Bool}{yA:Option Addr}{yk yc:Nat}{ym:Bool}{yB:Option Addr}{yj yd:Nat}{p q:Rat}(h:Blk w g t #[.bool xn,.slice xA xk xc,.bool xm,.slice xB xj xd,.bool yn,.slice yA yk yc,.bool ym,.slice yB yj yd])(hp:Fr w xn xA xk xc xm xB xj xd p)(hq:Fr w yn yA yk yc ym yB yj yd q):FL w (some ⟨g,0,none⟩) 2 2 [p,q]:=by
 refine⟨[⟨xn,xA,xk,xc,xm,xB,xj,xd,p⟩,⟨yn,yA,yk,yc,ym,yB,yj,yd,q⟩],rfl,Qb _,by unfold maxLen;omega,λe he=>?_,rfl,λ_=>⟨g,0,rfl,λk r hr=>?_⟩⟩
 ·simp only[List.mem_cons,List.not_mem_nil,or_false]at he
  rcases he with rfl|rfl;exact hp;exact hq
 match k,hr with
 | 0,hr=>cases hr;exact⟨h.cell 0,h.cell 1,h.cell 2,h.cell 3⟩
 | 1,hr=>cases hr;exact⟨h.cell 4,h.cell 5,h.cell 6,h.cell 7⟩
 | k+2,hr=>simp at hr
theorem FL.sing1{w:World}{g:Nat}{t:TypeId}{na:Bool}{A:Option Addr}{n c:Nat}{nb:Bool}{B:Option Addr}{m d:Nat}{q:Rat}(h:Blk w g t #[.bool na,.slice A n c,.bool nb,.slice B m d])(hf:Fr w na A n c nb B m d q):FL w (some ⟨g,0,none⟩) 1 1 [q]:=by
 refine⟨[⟨na,A,n,c,nb,B,m,d,q⟩],rfl,Qb _,by unfold maxLen;omega,λe he=>?_,rfl,λ_=>⟨g,0,rfl,λk e hk=>?_⟩⟩;rw[Qw]at he;subst he;exact hf;have f:k=0:=by have:=(List.getElem?_eq_some_iff.1 hk).1;simp at this;exact this
 subst f;cases hk;exact⟨h.cell 0,h.cell 1,h.cell 2,h.cell 3⟩
theorem FL.atS{w:World}{g o n c:Nat}{qs:List Rat}(h:FL w (some ⟨g,o,none⟩) n c qs){k:Nat}(hk:k<n):∃ na A1 n1 c1 nb B m d,At4 w g (o+k*4) na A1 n1 c1 nb B m d/\Fr w na A1 n1 c1 nb B m d (qs[k]?.getD 0):=by
 obtain⟨g',o',na,A1,n1,c1,nb,B,m,d,e,h1,h2⟩:=h.at_ hk;cases e;exact⟨_,_,_,_,_,_,_,_,h1,h2⟩
theorem Zlb(A:Option Addr)(n c:Nat)(B:Option Addr)(m d:Nat):NoLimb #[.slice A n c,.slice B m d]:=λi k=>by
 match i with
 | 0=>simp
 | 1=>simp
 | i+2=>simp
def EnvF(tS tN tX:TypeId)(w:World)(base bo gl gx:Nat)(v1 v2 V1 V2 own:Value)(rs:List RS)(Q:List (List Rat))(ds q:List Rat)(ln:Bool)(lA:Option Addr)(lk lc:Nat)(lm:Bool)(lB:Option Addr)(lj ld:Nat)(d:Rat):Prop:=
 FacM tS tN w base v1 v2 rs Q ds/\OwnF tN w bo own q/\Blk w gl tN #[.bool ln,.slice lA lk lc,.bool lm,.slice lB lj ld]/\Fr w ln lA lk lc lm lB lj ld d/\Blk w gx tX #[V1,V2]
def EnvG(tS tN tX:TypeId)(w:World)(base gl gx:Nat)(v1 v2 V1 V2:Value)(rs:List RS)(Q:List (List Rat))(ds:List Rat)(ln:Bool)(lA:Option Addr)(lk lc:Nat)(lm:Bool)(lB:Option Addr)(lj ld:Nat)(d:Rat):Prop:=
 FacM tS tN w base v1 v2 rs Q ds/\Blk w gl tN #[.bool ln,.slice lA lk lc,.bool lm,.slice lB lj ld]/\Fr w ln lA lk lc lm lB lj ld d/\Blk w gx tX #[V1,V2]
section
variable{tS tN tX:TypeId}{w w':World}{base bo gl gx:Nat}{v1 v1' v2 v2' V1 V2 own:Value}{rs:List RS}{Q:List (List Rat)}{ds q:List Rat}{ln:Bool}{lA:Option Addr}{lk lc:Nat}{lm:Bool}{lB:Option Addr}{lj ld:Nat}{d:Rat}
theorem EnvF.below(h:EnvF tS tN tX w base bo gl gx v1 v2 V1 V2 own rs Q ds q ln lA lk lc lm lB lj ld d)(hb:Below w.heap.size w w'):EnvF tS tN tX w' base bo gl gx v1 v2 V1 V2 own rs Q ds q ln lA lk lc lm lB lj ld d:=
 ⟨h.1.kept hb,h.2.1.kept hb,Ze hb h.2.2.1,h.2.2.2.1.below hb,Ze hb h.2.2.2.2⟩
theorem EnvG.below(h:EnvG tS tN tX w base gl gx v1 v2 V1 V2 rs Q ds ln lA lk lc lm lB lj ld d)(hb:Below w.heap.size w w'):EnvG tS tN tX w' base gl gx v1 v2 V1 V2 rs Q ds ln lA lk lc lm lB lj ld d:=
 ⟨h.1.kept hb,Ze hb h.2.1,h.2.2.1.below hb,Ze hb h.2.2.2⟩
theorem It{G:Prop}(h:G:=by
 exact⟨by rw[this.cell];rfl,by rw[this.cell];rfl⟩):G:=h
theorem EnvF.cells(h:EnvF tS tN tX w base bo gl gx v1 v2 V1 V2 own rs Q ds q ln lA lk lc lm lB lj ld d):w.cell? ⟨gx,0,none⟩=some V1/\w.cell? ⟨gx,1,none⟩=some V2:=by
 have:=h.2.2.2.2;exact It
theorem EnvG.cells(h:EnvG tS tN tX w base gl gx v1 v2 V1 V2 rs Q ds ln lA lk lc lm lB lj ld d):w.cell? ⟨gx,0,none⟩=some V1/\w.cell? ⟨gx,1,none⟩=some V2:=by
 have:=h.2.2.2;exact It
theorem EnvF.left(h:EnvF tS tN tX w base bo gl gx v1 v2 V1 V2 own rs Q ds q ln lA lk lc lm lB lj ld d):w.cell? ⟨gl,0,none⟩=some (.bool ln)/\w.cell? ⟨gl,1,none⟩=some (.slice lA lk lc)/\w.cell? ⟨gl,2,none⟩=some (.bool lm)/\w.cell? ⟨gl,3,none⟩=some (.slice lB lj ld):=by
 obtain⟨a,b,c,d,-⟩:=h.2.2.1.four;exact⟨a,b,c,d⟩
theorem EnvG.left(h:EnvG tS tN tX w base gl gx v1 v2 V1 V2 rs Q ds ln lA lk lc lm lB lj ld d):w.cell? ⟨gl,0,none⟩=some (.bool ln)/\w.cell? ⟨gl,1,none⟩=some (.slice lA lk lc)/\w.cell? ⟨gl,2,none⟩=some (.bool lm)/\w.cell? ⟨gl,3,none⟩=some (.slice lB lj ld):=by
 obtain⟨a,b,c,d,-⟩:=h.2.1.four;exact⟨a,b,c,d⟩
theorem EnvF.far{t:TypeId}{g:Nat}{cs:Array Value}(h:EnvF tS tN tX w base bo gl gx v1 v2 V1 V2 own rs Q ds q ln lA lk lc lm lB lj ld d)(hts:tS≠t)(hg:w.grownBy w' v1.ownBlock)(hb:Blk w g t cs):Blk w' g t cs:=
 (hg.block g hb.lt (λe=>h.1.1.1.ownType hb hts (by first|exact e|exact e.symm))).trans hb
theorem EnvF.app(h:EnvF tS tN tX w base bo gl gx v1 v2 V1 V2 own rs Q ds q ln lA lk lc lm lB lj ld d)(hts:tS≠tN){r:RS}(hr:r.val=own)(hbb:base<=bo)(hlt:∀ s ∈ rs,∀ k,s.val.ownBlock=some k->k<bo)(hl2:∀ k,v2.ownBlock=some k->k<bo)(hgx:gx<base)(h1:RowS tS w' base v1' (rs ++ [r]))(hg:w.grownBy w' v1.ownBlock)(hk:∀ (A:Option Addr) (n c:Nat) (l:List Nat),Lim w A n c l->Lim w' A n c l) :
    EnvG tS tN tX w' base gl gx v1' v2 V1 V2 (rs ++ [r]) (Q ++ [q]) ds ln lA lk lc lm lB lj ld d:=by
 refine⟨h.1.snocL hts (hr▸h.2.1) hbb hlt hl2 h1 hg hk,h.far hts hg h.2.2.1,⟨⟨h.2.2.2.1.1.1,h.2.2.2.1.1.2.1,hk _ _ _ _ h.2.2.2.1.1.2.2⟩,⟨h.2.2.2.1.2.1,h.2.2.2.1.2.2.1,hk _ _ _ _ h.2.2.2.1.2.2.2⟩⟩,?_⟩;exact(hg.block gx h.2.2.2.2.lt (λe=>by have:=h.1.1.1.row_ge gx (by first|exact e|exact e.symm);omega)).trans h.2.2.2.2
theorem EnvG.app(h:EnvG tS tN tX w base gl gx v1 v2 V1 V2 rs Q ds ln lA lk lc lm lB lj ld d)(hts:tS≠tN)(hgx:gx<base){qs:List Rat}(hO:OwnF tN w' base v2' qs)(hg:w.grownBy w' v2.ownBlock)(hk:∀ (A:Option Addr) (n c:Nat) (l:List Nat),Lim w A n c l->Lim w' A n c l)
    (hw:v2'.ownBlock=v2.ownBlock \/ ∀ k,v2'.ownBlock=some k->w.heap.size<=k):FacM tS tN w' base v1 v2' rs Q qs/\Blk w' gx tX #[V1,V2]:=
 ⟨h.1.snocD hts hO hg hk hw,(hg.block gx h.2.2.2.lt (λe=>by have:=h.1.2.1.row_ge gx (by first|exact e|exact e.symm);omega)).trans h.2.2.2⟩
theorem Kept.grownC{G:Nat->Prop}{W0:World}{row:Option Nat}(h:Kept G W0 w)(hg:w.grownBy w' row)(hr:∀ k,row=some k->W0.heap.size<=k):Kept G W0 w':=
 ⟨hg.os.trans h.os,hg.tape.trans h.tape,hg.output.trans h.output,Qe h.size hg.size,λk hk hG=>(hg.block k (Qf hk h.size) (λe=>by have:=hr k (by first|exact e|exact e.symm);omega)).trans (h.block k hk hG)⟩
end
theorem Zuw(na:Bool)(A B:Option Addr)(n c m d:Nat)(za zb:Int)(w:World)(ha:Wd w na A n c za)(hb:Wd w true B m d zb)(h0:zb<0) :
    Calls Tryz.prog 157 #[.agg #[.bool na,.slice A n c],.agg #[.bool true,.slice B m d]] w (Zdp w (Qt za zb)):=by
 have e3:=Zd0 ha.small hb.small;have hx:=Zd (Zkf (a:=za) (b:=zb) Gk);have hy:=Zd (Zjy (a:=za) (b:=zb) Gk);have a2:=Zd (Zl7 (a:=za) (b:=zb) Gk);have b6:Zgi za zb=-((Nat.gcd za.natAbs zb.natAbs:Nat):Int):=by unfold Zgi;rw[Gx h0]
 rw[b6]at hx hy a2;have HA:=Zd ha;have HB:=Zd hb;obtain⟨G,hG⟩:=Gz (Nat.gcd za.natAbs zb.natAbs);rw[hG]at hx hy a2 e3
 have HGc:Hid (∀ W:World,Wd W na A n c za->Wd W true B m d zb->Calls Tryz.prog 151 #[.agg #[.bool na,.slice A n c],.agg #[.bool true,.slice B m d]] W (ResW W (G:Int))):=λW h1 h2=>by
  have:=Zk2 na true A B n c m d za zb W h1 h2;rw[hG]at this;exact this
 generalize Qt za zb=R at *;clear ha hb hG b6;have a9:∀ X Y Z:Obj,Below w.heap.size w (((w.alloc X).alloc Y).alloc Z):=λX Y Z=>(((Below.refl w.heap.size w).alloc (Qb _) _).alloc Gh _).alloc Gg _;have a9:=Zd a9;go_in;go_wp2_with fail;have q0:Blk (((w.alloc (.cells #[.bool na,.slice A n c] 39)).alloc (.cells #[.bool true,.slice B m d] 39)).alloc (.cells #[.bool false,.slice none 0 0,.bool false,.slice none 0 0] 41)) w.heap.size 39 #[.bool na,.slice A n c]:=((Blk.new _ _ _).alloc _).alloc _
 have q1:Blk (((w.alloc (.cells #[.bool na,.slice A n c] 39)).alloc (.cells #[.bool true,.slice B m d] 39)).alloc (.cells #[.bool false,.slice none 0 0,.bool false,.slice none 0 0] 41)) (w.heap.size+1) 39 #[.bool true,.slice B m d]:=by
  exact CR
 have q2:Blk (((w.alloc (.cells #[.bool na,.slice A n c] 39)).alloc (.cells #[.bool true,.slice B m d] 39)).alloc (.cells #[.bool false,.slice none 0 0,.bool false,.slice none 0 0] 41)) (w.heap.size+1+1) 41 #[.bool false,.slice none 0 0,.bool false,.slice none 0 0]:=by
  exact CQ
 refine(HGc.out _ (((HA.out.alloc _).alloc _).alloc _) (((HB.out.alloc _).alloc _).alloc _)).mono ?_;rintro e w1 ⟨y,ng,Ag,kg,cg,code,rfl,hR⟩;rcases hR with ⟨-,rfl,b2⟩|⟨e0,-⟩
 case inr=>exact absurd e0 Gk
 have C:Below w.heap.size w w1:=(a9.out _ _ _).trans (y.mono Gg);have b4:=Zd (HA.out.below C);have d8:=Zd (HB.out.below C);have s1:w.heap.size+1+1<w1.heap.size:=by have:=y.size;simp at this;omega
 replace q0:=Ze y q0;replace q1:=Ze y q1;replace q2:=Ze y q2;obtain⟨J,T,-,-⟩:=q0.two;obtain⟨aP,aQ,-,-⟩:=q1.two;have hq:=Zd (Qg q0 (Qg q1 q2));clear q0 q1 q2 y;go_wp2_with fail;refine(Zd5 ng Ag kg cg _).mono ?_;rintro e w2 ⟨rfl,h⟩;have c4:Below w.heap.size w w2:=Gs C h;have c9:=Zd (b4.out.below h);have c6:=Zd (d8.out.below h);have d6:=Zd (b2.below h);have s2:w.heap.size+1+1<w2.heap.size:=by have:=h.size;omega
 have q0:=Ze h hq.out.1;have q1:=Ze h hq.out.2.1;have q2:=Ze h hq.out.2.2;clear J T aP aQ C h b2 b4 d8 hq;obtain⟨W3,a0,b8,q3,kW,kB,s3⟩:=Zq 39 #[.bool ng,.slice Ag kg cg] c4 Gk;replace q0:=kB _ _ _ q0;replace q1:=kB _ _ _ q1;replace q2:=kB _ _ _ q2;have d4:=Zd (kW _ _ _ _ _ c9.out);have d5:=Zd (kW _ _ _ _ _ c6.out);have b0:=Zd (kW _ _ _ _ _ d6.out);have s4:w.heap.size+1+1<w2.heap.size:=s2;clear kW kB c9 c6 d6 c4;have c0:=Zd q0.two;have c1:=Zd q1.two;have c3:=Zd q3.two;rw[<- a0]at c0 c1 c3;obtain⟨J,T,-,-⟩:=c0.out;obtain⟨aP,aQ,-,-⟩:=c1.out;obtain⟨aX,aY,-,-⟩:=c3.out;have hq:=Zd (Qg q0 (Qg q1 (Qg q2 q3)));clear q0 q1 q2 q3;replace a0:=Zd a0;go_wp2_with fail;rw[a0.out];refine(Neg_ok ng Ag kg cg G W3 b0.out).mono ?_;rintro e w4 ⟨o,n5,A5,k5,c5,code,rfl,hR⟩;have a5:(-(G:Int)).natAbs<pw 4096:=by rw[Int.natAbs_neg];exact b0.out.small
 have b9:=Zd (hR.small a5);have a6:=hR.code0 a5;subst a6;have I:Below w.heap.size w w4:=b8.trans (o.mono Gk);have b3:=Zd (d4.out.below o);have V:=Zd (d5.out.below o);have s5:w2.heap.size+1<=w4.heap.size:=by have:=o.size;omega
 have q0:=Ze o hq.out.1;have q1:=Ze o hq.out.2.1;have q2:=Ze o hq.out.2.2.1;have q3:=Ze o hq.out.2.2.2;clear o c0 c1 c3 J T aP aQ aX aY a0 d4 d5 b0 b8 hq hR a5;have hq:=Zd (Qg q0 (Qg q1 (Qg q2 q3)));clear q0 q1 q2 q3;go_wp2_with fail;refine(Zd5 n5 A5 k5 c5 _).mono ?_;rintro e w5 ⟨rfl,f⟩;have U:Below w.heap.size w w5:=I.trans (f.mono Gk);have b5:=Zd (b3.out.below f);have a1:=Zd (V.out.below f);have b7:=Zd (b9.out.below f);have s6:w4.heap.size<=w5.heap.size:=f.size;have q0:=Ze f hq.out.1;have q1:=Ze f hq.out.2.1;have q2:=Ze f hq.out.2.2.1;have q3:=Ze f hq.out.2.2.2;clear f b3 V b9 I hq;obtain⟨W7,O,aU,a3,kW,kB,s7⟩:=Zaz n5 A5 k5 c5 U Gk q3;replace q0:=kB _ _ _ Gk q0;replace q1:=kB _ _ _ Gk q1;replace q2:=kB _ _ _ Gk q2;have d9:=Zd (kW _ _ _ _ _ b5.out);have d7:=Zd (kW _ _ _ _ _ a1.out);have a4:=Zd (kW _ _ _ _ _ b7.out);obtain⟨e5,e4,e2,e1⟩:=q3.two;have c0:=Zd q0.two;have c1:=Zd q1.two;have c3:=Zd a3.two;obtain⟨J,T,-,-⟩:=c0.out;obtain⟨aP,aQ,-,-⟩:=c1.out;obtain⟨aX,aY,-,-⟩:=c3.out;have hq:=Zd (Qg q0 (Qg q1 (Qg q2 a3)));clear q0 q1 q2 q3 a3 kW kB b5 a1 b7 U;replace O:=Zd O;have d0:=O.out;go_wp2_with fail;(try rw[O.out]);clear e5 e4 e2 e1 d0;refine(Zgb na n5 A A5 n c k5 c5 za (-(G:Int)) _ d9.out a4.out a2.out).mono ?_;rintro e w9 ⟨u,nx,Ax,kx,cx,nr,Ar,kr,cr,rfl,a7,-⟩;rw[hx.out]at a7;have I:Below w.heap.size w w9:=aU.trans (u.mono Gk);have V:=Zd (d7.out.below u);have d3:=Zd (a4.out.below u);have s8:w2.heap.size+1<=w9.heap.size:=by have:=u.size;omega
 have q1:=Ze u hq.out.2.1;have q2:=Ze u hq.out.2.2.1;have q3:=Ze u hq.out.2.2.2;clear u c0 c1 c3 J T aP aQ aX aY O d9 d7 a4 aU hq;obtain⟨W5,a8,U,q5,kW,kB,s6⟩:=Zq 39 #[.bool nx,.slice Ax kx cx] I Gk;replace q1:=kB _ _ _ q1;replace q2:=kB _ _ _ q2;replace q3:=kB _ _ _ q3;have a1:=Zd (kW _ _ _ _ _ V.out);have b1:=Zd (kW _ _ _ _ _ d3.out);have c7:=Zd (kW _ _ _ _ _ a7);clear kW kB V d3 a7 I;obtain⟨W6,aI,aM,-,kW,kB,s7⟩:=Zq 39 #[.bool nr,.slice Ar kr cr] U Gk;replace q1:=kB _ _ _ q1;replace q2:=kB _ _ _ q2;replace q3:=kB _ _ _ q3;replace q5:=kB _ _ _ q5;have cS:=Zd (kW _ _ _ _ _ a1.out);have cU:=Zd (kW _ _ _ _ _ b1.out);have cf:=Zd (kW _ _ _ _ _ c7.out);clear kW kB a1 b1 c7 U;have c1:=Zd q1.two;have c3:=Zd q3.two;rw[<- aI,<- a8]at c1 c3;obtain⟨aP,aQ,-,-⟩:=c1.out;obtain⟨aX,aY,-,-⟩:=c3.out;have hq:=Zd (Qg q2 q5);clear q1 q2 q3 q5;rw[<- a8]at aI;replace aI:=Zd aI;clear a8;go_wp2_with fail;rw[aI.out];refine(Zgb true n5 B A5 m d k5 c5 zb (-(G:Int)) _ cS.out cU.out a2.out).mono ?_;rintro e w7 ⟨az,ny,Ay,ky,cy,ns,As,ks,cs,rfl,dw,-⟩;rw[hy.out]at dw;have aU:Below w.heap.size w w7:=aM.trans (az.mono Gk);have dM:=Zd (cf.out.below az);have e6:w9.heap.size+2<=w7.heap.size:=by have:=az.size;omega
 exact En
theorem Ztz(na nb:Bool)(A B:Option Addr)(n c m d:Nat)(za zb:Int)(w:World)(ha:Wd w na A n c za)(hb:Wd w nb B m d zb)(h0:zb≠0) :
    Calls Tryz.prog 157 #[.agg #[.bool na,.slice A n c],.agg #[.bool nb,.slice B m d]] w (Zdp w (Qt za zb)):=by
 by_cases hn:zb<0
 ·have:nb=true:=by rw[hb.1];exact Gv hn
  subst this;exact Zuw na A B n c m d za zb w ha hb hn
 have:nb=false:=by rw[hb.1];exact Gu hn
 subst this;exact Zja na A B n c m d za zb w ha hb Gk
theorem Zz6(F:FuncId)(na nb na' nb':Bool)(A B A' B':Option Addr)(n c m d n' c' m' d':Nat)(a b:Rat)(X Y:Int)(w:World)(ha:Fr w na A n c nb B m d a)(hb:Fr w na' A' n' c' nb' B' m' d' b)(hY:Y≠0)(hcf:∀ (x y:Value) (W:World),(callFunc F #[x,y]).run Tryz.prog W=.ok (.enter F #[x,y]) W)
    (hF:∀ W:World,Fr W na A n c nb B m d a->Fr W na' A' n' c' nb' B' m' d' b->Calls Tryz.prog F #[.agg #[.bool na,.slice A n c,.bool nb,.slice B m d],.agg #[.bool na',.slice A' n' c',.bool nb',.slice B' m' d']] W (Zo8 W X Y)) :
    Calls Tryz.prog 130 #[.agg #[.bool na,.slice A n c,.bool nb,.slice B m d],.agg #[.bool na',.slice A' n' c',.bool nb',.slice B' m' d'],.func (.func F) #[] #[]] w (Zev w (Qt X Y)):=by
 obtain⟨W0,O,C,⟨q0,q1,q2,q3⟩,s0⟩:=Zfr w 41 #[.bool na,.slice A n c,.bool nb,.slice B m d] 41 #[.bool na',.slice A' n' c',.bool nb',.slice B' m' d'] 41 #[.bool false,.slice none 0 0,.bool false,.slice none 0 0] 26 #[.int .i64 0];have hA:=Zd (ha.below C);have hD:=Zd (hb.below C);replace hF:=Zd hF;clear ha hb;replace O:=Zd O;obtain⟨a0,a1,a2,a3,-⟩:=q0.four;have hq:=Zd (Qg q0 (Qg q1 (Qg q2 q3)));clear q0 q1 q2 q3
 go_enter_defers Tryz.func130,Tryz.ntmps130
 have a6:=O.out;go_wp2_with fail;clear O a6;refine(Zek na nb A B n c m d a W0 hA.out).mono ?_;rintro e w1 ⟨rfl,o⟩;have T:Below w.heap.size w w1:=Gs C o;have s1:W0.heap.size<=w1.heap.size:=o.size;replace hA:=Zd (hA.out.below o);replace hD:=Zd (hD.out.below o);obtain⟨q0,q1,q2,q3⟩:=hq.out;replace q0:=Ze o q0;replace q1:=Ze o q1;replace q2:=Ze o q2;replace q3:=Ze o q3;clear hq o C a0 a1 a2 a3;obtain⟨b0,b1,b2,b3,-⟩:=q1.four;have hq:=Zd (Qg q0 (Qg q1 (Qg q2 q3)));clear q0 q1 q2 q3;go_wp2_with fail;refine(Zfj w1).mono ?_;rintro e w1 ⟨rfl,rfl⟩;go_wp2_with fail;refine(Zek na' nb' A' B' n' c' m' d' b w1 hD.out).mono ?_;rintro e w2 ⟨rfl,h⟩;have a4:Below w.heap.size w w2:=Gs T h;have s2:w1.heap.size<=w2.heap.size:=h.size;replace hA:=Zd (hA.out.below h);replace hD:=Zd (hD.out.below h);obtain⟨q0,q1,q2,q3⟩:=hq.out;replace q0:=Ze h q0;replace q1:=Ze h q1;replace q2:=Ze h q2;replace q3:=Ze h q3;clear hq h T b0 b1 b2 b3;obtain⟨a0,a1,a2,a3,-⟩:=q0.four;obtain⟨b0,b1,b2,b3,-⟩:=q1.four;have hq:=Zd (Qg q2 q3);clear q0 q1 q2 q3;go_wp2_with fail;refine(Zfj w2).mono ?_;rintro e w2 ⟨rfl,rfl⟩;go_wp2_with fail;refine(hF.out w2 hA.out hD.out).mono ?_;rintro e w3 ⟨J,nu,U,k1,u,nv,V,k2,v,rfl,hU,hV⟩;have a5:Below w.heap.size w w3:=Gs a4 J;have s3:w2.heap.size<=w3.heap.size:=J.size;have q2:=Ze J hq.out.1;have q3:=Ze J hq.out.2
 clear hq J a4 a0 a1 a2 a3 b0 b1 b2 b3 hA hD hF;have hq:=Zd (Qg q2 q3);replace hU:=Zd hU;replace hV:=Zd hV;clear q2 q3;go_wp2_with fail;refine(Ztz nu nv U V k1 u k2 v X Y w3 hU.out hV.out hY).mono ?_;rintro e w4 ⟨I,nx,Ax,kx,cx,ny,Ay,ky,cy,rfl,hF⟩;have a9:Below w.heap.size w w4:=Gs a5 I;have s4:w3.heap.size<=w4.heap.size:=I.size;have q2:=Ze I hq.out.1;have q3:=Ze I hq.out.2;clear hq I hU hV a5;have c2:=Zd q2.four;have c3:=q3.cell 0;have f3:=q3.frozen 0;simp at c3;obtain⟨b9,b6,b8,b5,b4,a7,a8,b7⟩:=c2.out;have hq:=Zd (Qg q2 q3);exact Bz
theorem Zui(x y:Value)(W:World):(callFunc 155 #[x,y]).run Tryz.prog W=.ok (.enter 155 #[x,y]) W:=by simp[go_sem]
theorem Div1_ok(na nb na' nb':Bool)(A B A' B':Option Addr)(n c m d n' c' m' d':Nat)(a b:Rat)(w:World)(ha:Fr w na A n c nb B m d a)(hb:Fr w na' A' n' c' nb' B' m' d' b)
    (hs:(a.num*b.den).natAbs<pw 4096) (ht:((a.den:Int)*b.num).natAbs<pw 4096) (h0:b≠0) :
    Calls Tryz.prog 155 #[.agg #[.bool na,.slice A n c,.bool nb,.slice B m d],.agg #[.bool na',.slice A' n' c',.bool nb',.slice B' m' d']] w (Zo8 w (a.num*b.den) ((a.den:Int)*b.num)):=by
 obtain⟨W0,I,C,⟨q0,q1,q2,q3⟩,s0⟩:=Zfr w 41 #[.bool na,.slice A n c,.bool nb,.slice B m d] 41 #[.bool na',.slice A' n' c',.bool nb',.slice B' m' d'] 39 #[.bool false,.slice none 0 0] 39 #[.bool false,.slice none 0 0]
 have a5:((n':Int) == 0)=false:=by
  have:n'≠0:=λe=>h0 (hb.zero_iff.1 e);simp;omega
 have hmx:=Gt;have hA:=Zd (ha.below C);have hD:=Zd (hb.below C);replace hs:=Zd hs;replace ht:=Zd ht;have sz:=Zd C.size;have hB:=Zd C;clear ha hb C s0;replace q0:=Zd q0;replace q1:=Zd q1;replace q2:=Zd q2;replace q3:=Zd q3;obtain⟨a0,a1,a2,a3,-⟩:=q0.out.four;obtain⟨b0,b1,b2,b3,-⟩:=q1.out.four;replace I:=Zd I;go_in;go_wp2_with fail;rw[I.out];refine(Zkc na' A' n' c' W0 (Qe hD.out.1.2.1 Gj) false a5).mono ?_;rintro e wz ⟨rfl,u⟩;replace q0:=Gm u q0;replace q1:=Gm u q1;replace q2:=Gm u q2;replace q3:=Gm u q3;replace hA:=Zd (hA.out.below u);replace hD:=Zd (hD.out.below u);replace hB:=Zd (hB.out.trans (u.mono sz.out));replace sz:=Zd (Qe sz.out u.size);clear a0 a1 a2 a3 b0 b1 b2 b3 I u;obtain⟨a0,a1,a2,a3,-⟩:=q0.out.four;obtain⟨b0,b1,b2,b3,-⟩:=q1.out.four;go_wp2_with fail;refine Zz [12] (λW'=>W'.cell? ⟨w.heap.size,0,none⟩=some (.bool na)/\W'.cell? ⟨w.heap.size,1,none⟩=some (.slice A n c)/\W'.cell? ⟨w.heap.size,2,none⟩=some (.bool nb)/\W'.cell? ⟨w.heap.size,3,none⟩=some (.slice B m d)/\W'.cell? ⟨w.heap.size+1,0,none⟩=some (.bool na')/\W'.cell? ⟨w.heap.size+1,1,none⟩=some (.slice A' n' c')/\W'.cell? ⟨w.heap.size+1,2,none⟩=some (.bool nb')/\W'.cell? ⟨w.heap.size+1,3,none⟩=some (.slice B' m' d')) hmx ⟨a0,a1,a2,a3,b0,b1,b2,b3⟩ (λ_=>?_);refine Zkb 6 [0,1,3,4,5,6] rfl Gi ⟨a0,a1,a2,a3,b0,b1,b2,b3⟩ ?_
 iterate 6 (refine tkA ?_;try simp only[Qy,Zg9,Zgn,Zg3,Gr,Gq,Gp])
 refine tk0 ?_;refine wpAnyL_o 2 λK hK=>?_;go_simp;refine(Zfe na nb na' nb' A B A' B' n c m d n' c' m' d' a b wz.drew hA.out hD.out hs.out).mono ?_;rintro e w1 ⟨h,np,P,k,q,rfl,hP⟩;replace h:=Zv h;replace hP:=Zd hP;clear hs;replace q0:=Gm h q0;replace q1:=Gm h q1;replace q2:=Gm h q2;replace q3:=Gm h q3;replace hA:=Zd (hA.out.below h);replace hD:=Zd (hD.out.below h);replace hB:=Zd (hB.out.trans (h.mono sz.out));replace sz:=Zd (Qe sz.out h.size);clear a0 a1 a2 a3 b0 b1 b2 b3;obtain⟨a0,a1,a2,a3,-⟩:=q0.out.four;obtain⟨b0,b1,b2,b3,-⟩:=q1.out.four;clear h;refine hK.out _ _ (λ_=>⟨a0,a1,a2,a3,b0,b1,b2,b3⟩) ?_;clear hK K
 try simp only[Qy,Zg9,Zgn,Zg3]
 refine wpAnyL_o 7 λK hK=>?_;go_simp;refine(Zjd nb na' B A' m d n' c' a.den b.num w1 hA.out.2 hD.out.1).mono ?_;rintro e w3 ⟨o,J,P',k',q',code,rfl,hR⟩;have y:=Zd (hR.small ht.out);have T:=hR.code0 ht.out;subst T;clear ht hR;replace hP:=Zd (hP.out.below o);replace q0:=Gm o q0;replace q1:=Gm o q1;replace q2:=Gm o q2;replace q3:=Gm o q3;replace hA:=Zd (hA.out.below o);replace hD:=Zd (hD.out.below o);replace hB:=Zd (hB.out.trans (o.mono sz.out));replace sz:=Zd (Qe sz.out o.size);clear a0 a1 a2 a3 b0 b1 b2 b3;obtain⟨a0,a1,a2,a3,-⟩:=q0.out.four;obtain⟨b0,b1,b2,b3,-⟩:=q1.out.four;clear o;refine hK.out _ _ (λ_=>⟨a0,a1,a2,a3,b0,b1,b2,b3⟩) ?_;clear hK K
 try simp only[Qy,Zg9,Zgn,Zg3]
 refine Zkb 2 [8,9] rfl Gi ⟨a0,a1,a2,a3,b0,b1,b2,b3⟩ ?_
 iterate 2 (refine tkA ?_;try simp only[Qy,Zg9,Zgn,Zg3,Gr,Gq,Gp])
 refine tk0 ?_;refine wpAnyL_o 10 λK hK=>?_;go_simp;refine(Zd5 J P' k' q' w3).mono ?_;rintro e w4 ⟨rfl,f⟩;replace hP:=Zd (hP.out.below f);replace y:=Zd (y.out.below f);replace q0:=Gm f q0;replace q1:=Gm f q1;replace q2:=Gm f q2;replace q3:=Gm f q3;replace hA:=Zd (hA.out.below f);replace hD:=Zd (hD.out.below f);replace hB:=Zd (hB.out.trans (f.mono sz.out));replace sz:=Zd (Qe sz.out f.size);clear a0 a1 a2 a3 b0 b1 b2 b3;obtain⟨a0,a1,a2,a3,-⟩:=q0.out.four;obtain⟨b0,b1,b2,b3,-⟩:=q1.out.four;clear f;obtain⟨x0,x1,f0,f1⟩:=q2.out.two;refine hK.out _ _ (λ_=>⟨a0,a1,a2,a3,b0,b1,b2,b3⟩) ?_;clear hK K
 try simp only[Qy,Zg9,Zgn,Zg3]
 refine wpAnyL_o 11 λK hK=>?_;go_simp;obtain⟨W5,V,Y,O,kW,kB,s5⟩:=Zaz np P k q hB.out Gk q2.out;rw[V];clear V x0 x1 f0 f1 a0 a1 a2 a3 b0 b1 b2 b3 hA hD;replace q0:=kB _ _ _ Gk q0.out;replace q1:=kB _ _ _ Gk q1.out;obtain⟨a0,a1,a2,a3,-⟩:=q0.four;obtain⟨b0,b1,b2,b3,-⟩:=q1.four;replace q3:=Zd (kB _ _ _ Gk q3.out);replace hP:=Zd (kW _ _ _ _ _ hP.out);replace y:=Zd (kW _ _ _ _ _ y.out);clear kW kB q2 hB q0 q1;obtain⟨y0,y1,g0,g1⟩:=q3.out.two;refine hK.out _ _ (λ_=>⟨a0,a1,a2,a3,b0,b1,b2,b3⟩) ?_;clear hK K
 try simp only[Qy,Zg9,Zgn,Zg3]
 refine Zy (i:=12) rfl Gi Gi (λK hK=>?_);go_simp;obtain⟨W6,U,a6,a4,kW,kB,s6⟩:=Zaz J P' k' q' Y Gk q3.out;rw[U];clear U y0 y1 g0 g1 a0 a1 a2 a3 b0 b1 b2 b3;replace O:=kB _ _ _ Gk O;replace hP:=Zd (kW _ _ _ _ _ hP.out);replace y:=Zd (kW _ _ _ _ _ y.out);clear kW kB q3 Y;refine hK.out _ _ ?_;clear hK K
 try simp only[Qy,Zg9,Zgn,Zg3]
 refine wpAnyL_fin ?_;obtain⟨r0,r1,-⟩:=O.two;obtain⟨r2,r3,-⟩:=a4.two;go_wp2_with fail;refine bodyPost_ret (v:=.tuple #[.agg #[.bool np,.slice P k q],.agg #[.bool J,.slice P' k' q']]) (by simp[results,Tryz.results155,go_sem,r0,r1,r2,r3]) rfl ?_;exact⟨a6,_,_,_,_,_,_,_,_,rfl,hP.out,y.out⟩
theorem Zsh(na nb na' nb':Bool)(A B A' B':Option Addr)(n c m d n' c' m' d':Nat)(a b:Rat)(w:World)(ha:Fr w na A n c nb B m d a)(hb:Fr w na' A' n' c' nb' B' m' d' b)(sa:Sm a)(sb:Sm b)(h0:b≠0) :
    Calls Tryz.prog 111 #[.agg #[.bool na,.slice A n c,.bool nb,.slice B m d],.agg #[.bool na',.slice A' n' c',.bool nb',.slice B' m' d']] w (Zev w (a/b)):=by
 obtain⟨W0,u,f,⟨q0,q1,q2⟩,s0⟩:=Zb2 w 41 #[.bool na,.slice A n c,.bool nb,.slice B m d] 41 #[.bool na',.slice A' n' c',.bool nb',.slice B' m' d'] 41 #[.bool false,.slice none 0 0,.bool false,.slice none 0 0];have hA:=Zd (ha.below f);have hD:=Zd (hb.below f);have hF:=λ(W:World) (h1:Fr W na A n c nb B m d a) (h2:Fr W na' A' n' c' nb' B' m' d' b)=>Div1_ok na nb na' nb' A B A' B' n c m d n' c' m' d' a b W h1 h2 (Zbm sa.1 sb.dn) (Zbm sa.dn sb.1) h0;have hG:=Zd (Zz6 155 na nb na' nb' A B A' B' n c m d n' c' m' d' a b _ _ W0 hA.out hD.out (Zjg a b h0) Zui hF);rw[Zhw a b h0]at hG;clear hF ha hb sa sb hA hD;obtain⟨a0,a1,a2,a3,-⟩:=q0.four;obtain⟨b0,b1,b2,b3,-⟩:=q1.four;replace q2:=Zd q2;clear q0 q1;go_in;go_wp2_with fail;refine hG.out.mono ?_;rintro e w1 ⟨h,nx,Ax,kx,cx,ny,Ay,ky,cy,rfl,hX⟩;have o:Below w.heap.size w w1:=Gs f h;have s1:W0.heap.size<=w1.heap.size:=h.size;replace q2:=Gm h q2;replace hX:=Zd hX;clear h a0 a1 a2 a3 b0 b1 b2 b3 f hG u;obtain⟨Y,U,V,T,O,C,J,I⟩:=q2.out.four;go_wp2_with fail;obtain⟨W5,y,aJ,q2,kW,-,s5⟩:=Z5 nx Ax kx cx ny Ay ky cy o Gk q2.out;rw[y];obtain⟨r0,r1,r2,r3,-⟩:=q2.four;refine bodyPost_ret (v:=.tuple #[.agg #[.bool nx,.slice Ax kx cx,.bool ny,.slice Ay ky cy],.int .i64 0]) (by simp[results,Tryz.results111,go_sem,r0,r1,r2,r3]) rfl ?_;exact FW
theorem Zsv(na nb na' nb':Bool)(A B A' B':Option Addr)(n c m d n' c' m' d':Nat)(a b:Rat)(w:World)(ha:Fr w na A n c nb B m d a)(hb:Fr w na' A' n' c' nb' B' m' d' b)(sa:Sm a)(sb:Sm b)(h0:b≠0) :
    Calls Tryz.prog 67 #[.agg #[.bool na,.slice A n c,.bool nb,.slice B m d],.agg #[.bool na',.slice A' n' c',.bool nb',.slice B' m' d']] w (Zdp w (a/b)):=by
 obtain⟨W0,h,aq,⟨q0,q1,q2⟩,s0⟩:=Zb2 w 73 #[.bool na,.slice A n c,.bool nb,.slice B m d] 73 #[.bool na',.slice A' n' c',.bool nb',.slice B' m' d'] 73 #[.bool false,.slice none 0 0,.bool false,.slice none 0 0];obtain⟨a0,a1,a2,a3,-⟩:=q0.four;obtain⟨b0,b1,b2,b3,-⟩:=q1.four;obtain⟨gR,f⟩:=Gz (w.heap.size+1+1);rw[f]at q2;have hA:=ha.below aq;have hD:=hb.below aq;go_in;go_wp2_with fail;(try rw[h]);refine(Zsh na nb na' nb' A B A' B' n c m d n' c' m' d' a b W0 hA hD sa sb h0).mono ?_;rintro e w1 ⟨ab,pn,pA,pk,pc,pm,pB,pj,pd,rfl,hf⟩;replace q2:=Ze ab q2;clear a0 a1 a2 a3 b0 b1 b2 b3 q0 q1 hA hD;go_wp2_with fail;refine(Zf8 pn pm pA pB pk pc pj pd _ w1 hf).mono ?_;rintro e w2 ⟨aa,rn,rA,rk,rc,rm,rB,rj,rd,rfl,hr⟩;replace q2:=Ze aa q2;(try rw[f]);obtain⟨c0,c1,c2,c3,z0,z1,z2,z3⟩:=q2.four;obtain⟨W5,o,q5,aK,s5⟩:=Za2 rn rA rk rc rm rB rj rd q2;clear hf;go_wp2_with fail;(try rw[o]);obtain⟨r0,r1,r2,r3,-⟩:=q5.four;refine bodyPost_ret (v:=.agg #[.bool rn,.slice rA rk rc,.bool rm,.slice rB rj rd]) (by simp[results,Tryz.results67,go_sem,r0,r1,r2,r3]) rfl ?_;exact CA
def upS(E X:Nat->Nat->Rat)(i k t:Nat):Rat:=E i k-Za7 t (λj=>if i<j then E i j*X j k else 0)
theorem Ztf(E X:Nat->Nat->Rat)(i k t:Nat)(h:t<=i+1):upS E X i k t=E i k:=by
 unfold upS
 have:Za7 t (λj=>if i<j then E i j*X j k else 0)=0:=by
  induction t with
  | zero=>rfl
  | succ t ih=>simp only[Za7];rw[ih Gk,Gw Gk];grind
 rw[this];grind
theorem Zrj(E X:Nat->Nat->Rat){i k t:Nat}(h:i<t):upS E X i k (t+1)=upS E X i k t-E i t*X t k:=by
 unfold upS;simp only[Za7];rw[Gx h];grind
def Zha(E X:Nat->Nat->Rat)(n m:Nat):Prop:=
 (∀ i,i<n->E i i≠0)/\(∀ i k,i<n->n<=k->k<m->X i k=upS E X i k n/E i i)/\(∀ i j,SmN 300 300 (E i j))/\(∀ i k,SmN 300 300 (X i k))/\∀ i k t,SmN 400 400 (upS E X i k t)
def Zjz(X:Nat->Nat->Rat)(n m:Nat):List (List Rat):=(List.range n).map λi=>(List.range (m-n)).map λc=>X i (n+c)
theorem Zxz{E X X':Nat->Nat->Rat}{i k t:Nat}(h:∀ j,i<j->j<t->X j k=X' j k):upS E X i k t=upS E X' i k t:=by
 unfold upS;congr 1;refine Zam λj hj=>?_;by_cases hij:i<j;rw[Gx hij,Gx hij,h j hij hj];rw[Gw hij,Gw hij]
theorem Zyd{E E' X:Nat->Nat->Rat}{i k t:Nat}{c:Rat}(h:∀ j,E' i j=c*E i j):upS E' X i k t=c*upS E X i k t:=by
 unfold upS
 have:Za7 t (λj=>if i<j then E' i j*X j k else 0)=c*Za7 t (λj=>if i<j then E i j*X j k else 0):=by
  have h1:=Ze5 (n:=t) (λj=>if i<j then E i j*X j k else 0) (λ_=>0) c 0;rw[show c*Za7 t (λj=>if i<j then E i j*X j k else 0)=c*Za7 t (λj=>if i<j then E i j*X j k else 0)+0*Za7 t (λ_=>0) by grind,<- h1];refine Zam λj _=>?_;by_cases hij:i<j;rw[Gx hij,Gx hij,h];grind;rw[Gw hij,Gw hij];grind
 rw[this,h];grind
theorem Zrk{E X:Nat->Nat->Rat}{n i k t:Nat}(hX:∀ j,n<=j->X j k=0)(h:n<=t):upS E X i k t=upS E X i k n:=by
 unfold upS;congr 1
 induction t with
 | zero=>obtain rfl:n=0:=by omega
         rfl
 | succ t ih =>
  by_cases hn:n=t+1;rw[hn];simp only[Za7];rw[ih Gk];by_cases hit:i<t;rw[Gx hit,hX t Gk];grind;rw[Gw hit];grind
theorem Zn1{n:Nat}(E:Nat->Nat->Rat):∀ t,t<=n->∃ X:Nat->Nat->Rat,(∀ i k,n-t<=i->i<n->X i k=upS E X i k n/E i i)/\∀ i k,n<=i->X i k=0
 | 0,_=>⟨λ_ _=>0,λi k h1 h2=>by omega,λ_ _ _=>rfl⟩
 | t+1,ht=>by
  obtain⟨X,h1,h2⟩:=Zn1 (n:=n) E t Gk;refine⟨λi k=>if i=n-(t+1)then upS E X i k n/E i i else X i k,λi k hi hn=>?_,λi k hi=>?_⟩
  ·have hc:upS E (λi k=>if i=n-(t+1)then upS E X i k n/E i i else X i k) i k n=upS E X i k n:=Zxz λj hj hjn=>by
     rw[Gw Gk]
   rw[hc];show (if i=n-(t+1)then upS E X i k n/E i i else X i k)=_;by_cases hit:i=n-(t+1);rw[Gx hit];rw[Gw hit];exact h1 i k Gk hn
  show (if i=n-(t+1)then _ else _)=_;rw[Gw Gk];exact h2 i k hi
theorem Zuj{n:Nat}{E X:Nat->Nat->Rat}{i k:Nat}(hi:i<n)(hlow:∀ j,j<i->E i j=0)(hd:E i i≠0)(hX:X i k=upS E X i k n/E i i):Za7 n (λj=>E i j*X j k)=E i k:=by
 have h1:E i i*X i k=upS E X i k n:=by rw[hX];grind
 unfold upS at h1
 have h2:Za7 n (λj=>E i j*X j k)=Za7 n (λj=>if j=i then E i i*X i k else 0)+Za7 n (λj=>if i<j then E i j*X j k else 0):=by
  have:=Ze5 (n:=n) (λj=>if j=i then E i i*X i k else 0) (λj=>if i<j then E i j*X j k else 0) 1 1;rw[show ∀ a b:Rat,a+b=1*a+1*b by intro a b;grind,<- this];refine Zam λj _=>?_;rcases Nat.lt_trichotomy j i with h|h|h;rw[hlow j h,Gw Gk,Gw Gk];grind;subst h;rw[Gx rfl,Gw (Nat.lt_irrefl _)];grind;rw[Gw Gk,Gx h];grind
 rw[h2,Zh1 i hi (λj _ hj=>Gw hj),Gx rfl,h1];grind
def Zog(R:List (List Rat))(m:Nat)(x:Nat->Rat)(i:Nat):Rat:=Za7 m (λj=>Zj R i j*x j)
theorem Zk3{n m:Nat}(x:Nat->Rat):∀ (f col r:Nat) (R:List (List Rat)) (neg:Bool),R.length=n->(∀ i,i<n->(R[i]?.getD []).length=m)->r<=n->(∀ i j,r<=i->i<n->j<col->Zj R i j=0) ->
    (∀ i,i<n->Zog (Zbl f col r R neg).1 m x i=0)->∀ i,i<n->Zog R m x i=0
 | 0,col,r,R,neg,_,_,_,_,h=>h
 | f+1,col,r,R,neg,hl,hrow,hr,hlow,h=>by
  unfold Zbl at h;rw[hl]at h;by_cases hrn:r=n;simp only[Gx hrn]at h;exact h;simp only[Gw hrn]at h;obtain⟨q,hq⟩:∃ q,Zbt (λi=>Zj R i col == 0) n n r=q:=⟨_,rfl⟩;obtain⟨p1,p2,p3,p4⟩:=Zfb (z:=λi=>Zj R i col == 0) (n:=n) (f:=n) (k:=r) Gk Gk;rw[hq]at p1 p2 p3 p4;rw[hq]at h;by_cases hqn:q=n
  ·simp only[Gx hqn]at h
   refine Zk3 x f (col+1) r R neg hl hrow hr (λi j h1 h2 h3=>?_) h;by_cases hj:j=col;rw[hj];simpa using p3 i h1 Gk;exact hlow i j h1 h2 Gk
  simp only[Gw hqn]at h;have u:q<n:=Gk;have U:Zj R q col≠0:=by simpa using p4 u
  have O:(Zag R q r).length=n:=by rw[Zef,hl]
  have y:∀ i,i<(Zag R q r).length->((Zag R q r)[i]?.getD []).length=m:=λi hi=>by
   rw[O]at hi;rw[Zd1 Gk Gk];exact hrow _ (Zhy u Gk hi)
  have I:∀ i j,Zj (Zag R q r) i j=Zj R (swI q r i) j:=λi j=>Zig Gk Gk i j
  have o:∀ i j,r<=i->i<n->j<col->Zj (Zag R q r) i j=0:=λi j h1 h2 h3=>by
   rw[I];exact hlow _ j (Zq9 p1 h1) (Zhy u Gk h2) h3
  have V:swI q r r=q:=by unfold swI;split
                         rename_i e;exact e;rw[Gx rfl]
  have Y:Zj (Zag R q r) r col≠0:=by rw[I,V];exact U
  have C:∀ i j,i<n->Zj (Zbv (Zag R q r) r col) i j=if i<=r then Zj (Zag R q r) i j else Zj (Zag R q r) i j-Zj (Zag R q r) i col/Zj (Zag R q r) r col*Zj (Zag R q r) r j:=
   λi j hi=>Zgv (m:=m) y (λj hj=>o r j (Qb _) Gk hj) i j Gk Gk
  have ih:=Zk3 x f (col+1) (r+1) (Zbv (Zag R q r) r col) _ (by rw[Ze8,O]) (λi hi=>by rw[Znj i Gk];exact y i Gk) Gk (λi j h1 h2 h3=>by
   rw[C i j h2,Gw Gk];by_cases hj:j=col;rw[hj];grind;rw[o i j Gk h2 Gk,o r j (Qb _) Gk Gk];grind) h
  have J:Zog (Zag R q r) m x r=0:=by
   have:=ih r Gk;unfold Zog at this ⊢;rw[<- this];refine Zam λj _=>by rw[C r j Gk,Gx (Qb _)]
  have T:∀ i,i<n->Zog (Zag R q r) m x i=0:=λi hi=>by
   have h1:=ih i hi;by_cases hir:i<=r
   ·unfold Zog at h1 ⊢
    rw[<- h1];exact Zam λj _=>by rw[C i j hi,Gx hir]
   unfold Zog at h1 J ⊢;have h2:=Ze5 (n:=m) (λj=>Zj (Zag R q r) i j*x j) (λj=>Zj (Zag R q r) r j*x j) 1 (-(Zj (Zag R q r) i col/Zj (Zag R q r) r col));rw[J]at h2
   have h3:Za7 m (λj=>Zj (Zbv (Zag R q r) r col) i j*x j)=Za7 m (λj=>1*(Zj (Zag R q r) i j*x j)+-(Zj (Zag R q r) i col/Zj (Zag R q r) r col)*(Zj (Zag R q r) r j*x j)):=
    Zam λj _=>by rw[C i j hi,Gw hir];grind
   rw[h3,h2]at h1
   grind
  intro i hi;have:=T (swI q r i) (Zhy u Gk hi);unfold Zog at this ⊢;rw[<- this];exact Zam λj _=>by rw[I,Zqw]
theorem BndQ.sub{B C:Nat}{p q:Rat}(h:BndQ B p)(k:BndQ C q):BndQ (B+C) (p-q):=by
 obtain⟨a,rfl,ha⟩:=h;obtain⟨b,rfl,hb⟩:=k;exact⟨a-b,by rw[Rat.intCast_sub],by omega⟩
theorem BndQ.zero{B:Nat}:BndQ B 0:=⟨0,rfl,by simp⟩
def SolQ(Q X:Nat->Nat->Rat)(n m:Nat):Prop:=∀ i k,i<n->n<=k->k<m->Za7 n (λj=>Q i j*X j k)=Q i k
theorem Zv4{n m:Nat}{f:Nat->Rat}{k:Nat}(hk:n<=k)(hm:k<m)(h:∀ j,n<=j->j≠k->f j=0):Za7 m f=Za7 n f+f k:=by
 induction m with
 | zero=>omega
 | succ m ih =>
  simp only[Za7];by_cases hkm:k=m
  ·subst hkm
   congr 1
   have:∀ t,n+t<=k->Za7 (n+t) f=Za7 n f:=by
    intro t
    induction t with
    | zero=>intro _;rfl
    | succ t iht=>intro ht;rw[<- Nat.add_assoc];simp only[Za7];rw[iht Gk,h (n+t) Gk Gk];grind
   have h1:=this (k-n) Gk;rw[show n+(k-n)=k by omega]at h1;exact h1
  rw[ih Gk,h m Gk Gk];grind
section
variable{B S n m:Nat}
theorem Ck{G:Prop}(h:G:=by
 exact⟨Zby _,by show 1<pw 300;exact Nat.lt_of_lt_of_le Zeh (Zca Gj)⟩):G:=h
theorem Cv{G:Prop}(h:G:=by
 rw[this];exact⟨Zby _,by show 1<pw 400;exact Nat.lt_of_lt_of_le Zeh (Zca Gj)⟩):G:=h
theorem Zvx(hB:1<=B)(hS:1<=S)(R:List (List Rat))(hl:R.length=n)(hrow:∀ i,i<n->(R[i]?.getD []).length=m)(hs:∀ i,i<n->denAt R i<=S)(hBd:∀ i j,i<n->(Zaf (Z8 R) i j).natAbs<=B)(hnm:n<=m)
    (g1:(n+1)*(Zbr B n*Zbr B n)<pw 400) (g2:Zbr B n*Zbr B n*S<pw 400) (g3:Zbr B n*S<pw 300) :
    okZ (Zbr B n+1) m n 0 0 (Z8 R) 1/\okR (Zbr B n+1) (Zbr B n*S+1) m n 0 0 R /\
    (Zas n 0 0 (Z8 R) false 1).2.1=(Zbl n 0 0 R false).2.1/\(Zbl n 0 0 R false).2.1<=n /\
    ((Zbl n 0 0 R false).2.1<n->Zay n (Zj R)=0) /\
    ((Zbl n 0 0 R false).2.1=n->Zay n (Zj R)≠0/\∃ X:Nat->Nat->Rat,Zha (Zj (Zbl n 0 0 R false).1) X n m/\Zha (λi j=>(Zaf (Zas n 0 0 (Z8 R) false 1).1 i j:Rat)) X n m/\SolQ (Zj R) X n m/\∀ i k,(X i k).num.natAbs<=Zbr B n/\(X i k).den<=Zbr B n):=by
 obtain⟨h1,h2⟩:=Znt R hl hrow hs hBd;obtain⟨o1,o2,o3,o4,a7,U,G',s',o5,o6,o7,o8,o9⟩:=Zk8 hB hS n 0 0 R _ _ _ _ false 1 h1 h2 Gk
 have c9:((byZ R n:Nat):Rat)≠0:=by
  intro h;have:byZ R n=0:=by exact_mod_cast h
  have:=byZ_pos R n;omega
 have C:=o9 (λb=>b);rw[Zuc (λa b=>Zj R a b) (λa=>((denAt R a:Nat):Rat)),<- Z07]at C;have c4:sgB false=1:=rfl;rw[c4]at C;have c6:∀ b,sgB b*sgB b=1:=by intro b;cases b <;> simp[sgB] <;> grind
 refine⟨o1,o2,o3,o5.rn,λhr=>?_,λhr=>?_⟩
 ·have hE:=o5.det n (λb=>b) (λa=>a) (λa ha=>ha) (λa _=>rfl) (λa ha=>ha)
  have d3:a7=n:=Gk
  have h0:Zay n (λa b=>s' a*Zj (Zbl n 0 0 R false).1 a b)=0:=by
   rw[Zkd]
   ·refine Zve (k:=n-1) Gk ?_
    rw[o5.low (n-1) (n-1) Gk Gk Gk];grind
   intro a b ha hb;by_cases har:a<(Zbl n 0 0 R false).2.1
   ·have:∀ l,l<(Zbl n 0 0 R false).2.1->l<=U l:=by
      intro l
      induction l with
      | zero=>intro _;omega
      | succ l ih=>intro hl;have:=ih Gk;have:=o5.inc l (l+1) Gk hl;omega
    have:=this a har;rw[o5.bef a b har Gk];grind
   rw[o5.low a b Gk ha Gk];grind
  rw[hE]at h0;rw[h0]at C;have:((byZ R n:Nat):Rat)*Zay n (Zj R)=0:=by grind
  rcases Rat.mul_eq_zero.1 this with h|h;exact absurd h c9;exact h
 rw[hr]at o5 o6;have b3:a7<=n:=Gk;have I:∀ l,l<n->U l=l:=λl hl=>o5.diag b3 hl;obtain⟨E,o⟩:=Gz (Zj (Zbl n 0 0 R false).1);have T:∀ i j,i<n->j<i->E i j=0:=λi j hi hj=>by rw[<- o];exact o5.bef i j hi (by rw[I i hi];exact hj)
 have Y:∀ i,i<n->E i i≠0:=λi hi=>by have:=o5.piv i hi;rw[I i hi]at this;rw[<- o];exact this
 have y:∀ i j,n<=i->E i j=0:=λi j hi=>by rw[<- o];unfold Zj;rw[Qq (l:=(Zbl n 0 0 R false).1) (by rw[o5.len];exact hi)];rfl
 have d0:∀ i j,i<n->m<=j->E i j=0:=λi j hi hj=>by rw[<- o];exact Zsc o5.row hi hj
 have b9:∀ i,i<n->s' i≠0:=λi hi=>(o5.sB i hi).2
 -- the determinant
 obtain⟨D,hD⟩:∃ D,Zay n (λa b=>G' a b)=D:=⟨_,rfl⟩
 have b8:Zay n (λa b=>s' a*E a b)=D:=by
  have:=o5.det n (λb=>b) (λa=>a) (λa ha=>ha) (λa _=>rfl) (λa ha=>ha);rw[<- hD,<- this,o]
 have J:D≠0:=by
  rw[<- b8,Zkd (λa b ha hb=>by rw[T a b ha hb];grind)];intro h0
  have hp:∀ t,t<=n->Zbd t (λi=>s' i*E i i)≠0:=by
   intro t
   induction t with
   | zero=>intro _ h;simp only[Zbd]at h;revert h;decide
   | succ t ih =>
    intro ht h;simp only[Zbd]at h;rcases Rat.mul_eq_zero.1 h with h|h;exact ih Gk h;rcases Rat.mul_eq_zero.1 h with h|h;exact b9 t Gk h;exact Y t Gk h
  exact hp n (Qb _) h0
 have a4:BndQ (Zbr B n) D:=by rw[<- hD];exact Zhn λa b ha hb=>o5.gB a b ha
 obtain⟨X,hX,u⟩:=Zn1 (n:=n) E n (Qb _);replace hX:∀ i k,i<n->X i k=upS E X i k n/E i i:=λi k hi=>hX i k Gk hi;have b1:∀ i k,i<n->Za7 n (λj=>E i j*X j k)=E i k:=λi k hi=>Zuj hi (λj hj=>T i j hi hj) (Y i hi) (hX i k hi)
 have b6:∀ i k,i<n->BndQ (Zbr B n) (D*X i k):=λi k hi=>by
  have hc:=Z03 (λa b=>s' a*E a b) (λj=>X j k) (λa=>s' a*E a k) (λa ha=>by
   have:=Ze5 (n:=n) (λj=>E a j*X j k) (λ_=>0) (s' a) 0;rw[b1 a k ha]at this;rw[show s' a*E a k=s' a*E a k+0*Za7 n (λ_=>0) by grind,<- this];exact Zam λj _=>by grind) hi
  rw[b8]at hc;rw[hc];have:=o5.det n (λb=>if b=i then k else b) (λa=>a) (λa ha=>ha) (λa _=>rfl) (λa ha=>ha);rw[o]at this
  rw[<- Zba (M:=λa b=>s' a*E a (if b=i then k else b)) (λa b _ _=>by
   by_cases hb:b=i;rw[Gx hb,Gx hb];rw[Gw hb,Gw hb]),this]
  exact Zhn λa b ha hb=>o5.gB a _ ha
 have a9:∀ i k,(X i k).num.natAbs<=Zbr B n/\(X i k).den<=Zbr B n:=λi k=>by
  have b0:1<=Zbr B n:=Zc7 (m:=0) hB Gk;by_cases hi:i<n;exact Zfl (b6 i k hi) a4 J;rw[u i k Gk];exact⟨Qv _,b0⟩
 have b0:1<=Zbr B n:=Zc7 (m:=0) hB Gk;have a0:Zbr B n<=Zbr B n*S:=Qp _ hS;obtain⟨P,hP⟩:∃ P:Nat->Rat,P=λi=>Zet (Zbl n 0 0 R false).1 U s' i*s' i:=⟨_,rfl⟩
 have V:∀ i,i<n->P i≠0:=λi hi h0=>by
  rw[hP]at h0;rcases Rat.mul_eq_zero.1 h0 with h|h;exact o5.piv_ne (l:=i) Gk h;exact b9 i hi h
 have b4:∀ i,i<n->BndQ (Zbr B n*S) (P i):=λi hi=>by
  rw[hP];have h5:=o5.pivL_bnd (l:=i) Gk;have h6:=Zc7 hB (show i<=n by omega);exact(h5.mul (o5.sB i hi).1).mono (Qo h6 (Qb _))
 have a5:∀ i j,i<n->BndQ (Zbr B n) (P i*E i j):=λi j hi=>by
  have h5:=o5.minor hi j;rw[show min i n=i by omega,o]at h5;rw[hP];have:Zet (Zbl n 0 0 R false).1 U s' i*s' i*E i j=Zet (Zbl n 0 0 R false).1 U s' i*(s' i*E i j):=by grind
  rw[this];exact h5.mono (Zc7 hB Gk)
 have a8:∀ i k t,i<n->t<=n->BndQ ((n+1)*(Zbr B n*Zbr B n)) (P i*D*upS E X i k t):=λi k t hi ht=>by
  have e:P i*D*upS E X i k t=P i*E i k*D-Za7 t (λj=>if i<j then (P i*E i j)*(D*X j k)else 0):=by
   unfold upS;have:=Ze5 (n:=t) (λj=>if i<j then E i j*X j k else 0) (λ_=>0) (P i*D) 0
   have h5:Za7 t (λj=>if i<j then (P i*E i j)*(D*X j k)else 0)=P i*D*Za7 t (λj=>if i<j then E i j*X j k else 0)+0*Za7 t (λ_=>0):=by
    rw[<- this];refine Zam λj _=>?_;by_cases hij:i<j;rw[Gx hij,Gx hij];grind;rw[Gw hij,Gw hij];grind
   rw[h5];grind
  rw[e]
  have b2:BndQ (t*(Zbr B n*Zbr B n)) (Za7 t (λj=>if i<j then (P i*E i j)*(D*X j k)else 0)):=Zto λj hj=>by
   by_cases hij:i<j;rw[Gx hij];exact(a5 i j hi).mul (b6 j k Gk);rw[Gw hij];exact BndQ.zero
  refine(((a5 i k hi).mul a4).sub b2).mono ?_;rw[Nat.add_mul,Nat.one_mul,Nat.add_comm];exact Nat.add_le_add_right (Qo ht (Qb _)) _
 have c1:∀ i,i<n->BndQ (Zbr B n*Zbr B n*S) (P i*D):=λi hi=>by
  refine((b4 i hi).mul a4).mono ?_;rw[Nat.mul_right_comm];exact Qb _
 have c0:∀ i k t,SmN 400 400 (upS E X i k t):=λi k t=>by
  by_cases hi:i<n
  ·rcases Nat.le_total t n with ht|ht
   ·have:=Zfl (a8 i k t hi ht) (c1 i hi) (λh0=>by
      rcases Rat.mul_eq_zero.1 h0 with h|h;exact V i hi h;exact J h)
    exact⟨Qa this.1 g1,Qa this.2 g2⟩
   rw[Zrk (λj hj=>u j k hj) ht]
   have:=Zfl (a8 i k n hi (Qb _)) (c1 i hi) (λh0=>by
    rcases Rat.mul_eq_zero.1 h0 with h|h;exact V i hi h;exact J h)
   exact⟨Qa this.1 g1,Qa this.2 g2⟩
  have:upS E X i k t=0:=by
    unfold upS
    rw[y i k Gk,Zld (λj _=>by
     by_cases hij:i<j;rw[Gx hij,y i j Gk];grind;rw[Gw hij])]
    grind
  exact Cv
 have b7:∀ i k,SmN 300 300 (X i k):=λi k=>⟨Qa (a9 i k).1 (Qa a0 g3),Qa (a9 i k).2 (Qa a0 g3)⟩
 have c5:∀ i j,SmN 300 300 (E i j):=λi j=>by
  by_cases hi:i<n
  ·have:=Zfl (a5 i j hi) (b4 i hi) (V i hi)
   exact⟨Qa this.1 (Qa a0 g3),Qa this.2 g3⟩
  rw[y i j Gk];exact Ck
 have a3:∀ i j,i<n->(Zaf (Zas n 0 0 (Z8 R) false 1).1 i j:Rat)=P i*E i j:=λi j hi=>by
  rw[o6.ent i j hi,show min i n=i by omega,o,hP];grind
 have O:∀ i j,n<=i->(Zaf (Zas n 0 0 (Z8 R) false 1).1 i j:Rat)=0:=λi j hi=>by
  unfold Zaf;rw[Qq (l:=(Zas n 0 0 (Z8 R) false 1).1) (by rw[o6.len];exact hi)];rfl
 refine⟨?_,X,?_,?_,?_,a9⟩
 ·intro h0
  rw[hD]at C;rw[h0]at C;have hq:=c6 (Zbl n 0 0 R false).2.2;apply J;have:sgB (Zbl n 0 0 R false).2.2*(sgB (Zbl n 0 0 R false).2.2*D)=0:=by rw[C];grind
  grind
 ·rw[o]
  exact⟨Y,λi k hi _ _=>hX i k hi,c5,b7,c0⟩
 ·have b5:∀ i k t,i<n->upS (λi j=>(Zaf (Zas n 0 0 (Z8 R) false 1).1 i j:Rat)) X i k t=P i*upS E X i k t:=λi k t hi=>Zyd (E:=E) λj=>a3 i j hi
  refine⟨λi hi=>?_,λi k hi _ _=>?_,λi j=>?_,b7,λi k t=>?_⟩
  ·show (Zaf (Zas n 0 0 (Z8 R) false 1).1 i i:Rat)≠0
   rw[a3 i i hi];intro h0;rcases Rat.mul_eq_zero.1 h0 with h|h;exact V i hi h;exact Y i hi h
  ·show X i k=upS (λi j=>(Zaf (Zas n 0 0 (Z8 R) false 1).1 i j:Rat)) X i k n/(Zaf (Zas n 0 0 (Z8 R) false 1).1 i i:Rat)
   rw[b5 i k n hi,a3 i i hi,hX i k hi];have a1:=V i hi;have a2:=Y i hi
   grind
  ·by_cases hi:i<n
   ·obtain⟨z,c8,c2⟩:=a5 i j hi
    show SmN 300 300 (Zaf (Zas n 0 0 (Z8 R) false 1).1 i j:Rat);rw[a3 i j hi,c8];exact(SmN.int (i:=300) (Qa c2 (Qa a0 g3))).mono Gj Gj
   show SmN 300 300 (Zaf (Zas n 0 0 (Z8 R) false 1).1 i j:Rat);rw[O i j Gk];exact Ck
  have key:∀ t,i<n->t<=n->SmN 400 400 (P i*upS E X i k t):=λt hi ht=>by
    have h5:=a8 i k t hi ht;have e:P i*D*upS E X i k t=D*(P i*upS E X i k t):=by grind
    rw[e]at h5;have:=Zfl h5 a4 J;have c3:Zbr B n<=Zbr B n*Zbr B n*S:=Qe (Qp _ b0) (Qp _ hS);exact⟨Qa this.1 g1,Qa this.2 (Qa c3 g2)⟩
  by_cases hi:i<n
  ·rw[b5 i k t hi]
   rcases Nat.le_total t n with ht|ht;exact key t hi ht;rw[Zrk (λj hj=>u j k hj) ht];exact key n hi (Qb _)
  have:upS (λi j=>(Zaf (Zas n 0 0 (Z8 R) false 1).1 i j:Rat)) X i k t=0:=by
    unfold upS;have hz:∀ j,(Zaf (Zas n 0 0 (Z8 R) false 1).1 i j:Rat)=0:=λj=>O i j Gk;simp only[hz]
    rw[Zld (λj _=>by
     by_cases hij:i<j;rw[Gx hij];grind;rw[Gw hij])]
    grind
  exact Cv
 intro i k hi hk c7
 have hv:∀ (F:Nat->Rat),Za7 m (λj=>F j*(if j<n then X j k else if j=k then -1 else 0))=Za7 n (λj=>F j*X j k)-F k:=λF=>by
  have h1:=Zv4 (n:=n) (m:=m) (f:=λj=>F j*(if j<n then X j k else if j=k then -1 else 0)) (k:=k) hk c7 (λj h1 h2=>by
   show F j*(if j<n then X j k else if j=k then -1 else 0)=0;rw[Gw (show ¬ j<n by omega),Gw h2];grind)
  have h2:Za7 n (λj=>F j*(if j<n then X j k else if j=k then -1 else 0))=Za7 n (λj=>F j*X j k):=Zam λj hj=>by
   show F j*(if j<n then X j k else if j=k then -1 else 0)=F j*X j k;rw[Gx hj]
  have h3:F k*(if k<n then X k k else if k=k then -1 else 0)=- F k:=by
   rw[Gw (show ¬ k<n by omega),Gx rfl];grind
  rw[h1,h2,h3];grind
 have a6:=Zk3 (n:=n) (m:=m) (λj=>if j<n then X j k else if j=k then -1 else 0) n 0 0 R false hl hrow (Qv _) (λ_ j _ _ hj=>by omega) (λi hi=>by
  unfold Zog;have h1:=hv (λj=>E i j);rw[o];rw[b1 i k hi]at h1;rw[h1];grind) i hi
 unfold Zog at a6;have h1:=hv (λj=>Zj R i j);rw[a6]at h1
 grind
end
theorem Zoa{C C' m:Nat}(hC:C<=C'):∀ (f c r:Nat) (Z:List (List Int)) (la:Int),okZ C m f c r Z la->okZ C' m f c r Z la
 | 0,_,_,_,_,h=>⟨⟨h.1.1,λi j=>Qf (h.1.2 i j) hC⟩,h.2.1,Qf h.2.2 hC⟩
 | f+1,_,_,_,_,h=>⟨⟨h.1.1,λi j=>Qf (h.1.2 i j) hC⟩,⟨h.2.1.1,Qf h.2.1.2 hC⟩,h.2.2.imp id (λ⟨h1,h2⟩=>⟨λe=>Zoa hC f _ _ _ _ (h1 e),λe=>Zoa hC f _ _ _ _ (h2 e)⟩)⟩
theorem pw_pow(k n:Nat):pw k^n=pw (k*n):=by
 induction n with
 | zero=>rfl
 | succ n ih=>rw[Nat.pow_succ,ih,Nat.mul_succ,Zdw]
theorem le_pw1{n:Nat}(h:n<=900):n<=pw 1:=by rw[Za6,Zds];omega
theorem Zkh{b:Nat}:∀ n,n<=900->Zbr (pw b) n<=pw ((b+1)*n)
 | 0,_=>Qb _
 | n+1,h=>by
  have h1:=Zkh (b:=b) n Gk;have h2:(n+1)*(pw b*Zbr (pw b) n)<=pw 1*(pw b*pw ((b+1)*n)):=Qo (le_pw1 h) (Qo (Qb _) h1);rw[<- Zdw,<- Zdw]at h2;rw[show (b+1)*(n+1)=1+(b+(b+1)*n) by rw[Nat.mul_succ];omega];exact h2
def SmE(k:Nat)(Q:List (List Rat)):Prop:=∀ i j,(Zj Q i j).num.natAbs<=pw k/\(Zj Q i j).den<=pw k
section
variable{k n m:Nat}{Q:List (List Rat)}
theorem SmE.denTo(h:SmE k Q)(i t:Nat):denTo (Q[i]?.getD []) t<=pw (k*t):=by
 rw[<- pw_pow];exact Zrs _ (λj=>(h i j).2) t
theorem SmE.denAt(h:SmE k Q){i:Nat}(hr:(Q[i]?.getD []).length=m):denAt Q i<=pw (k*m):=by
 have:=h.denTo i m;unfold Go.Proofs.YthappeninglakaaGreat.denAt;rw[hr];exact this
theorem Zq7{z:Int}{d:Nat}{q:Rat}(h:(z:Rat)=(d:Nat)*q):z.natAbs<=d*q.num.natAbs:=by
 have h1:(z:Rat)*((q.den:Nat):Rat)=((d:Nat):Rat)*((q.num:Int):Rat):=by
  have e0:((q.num:Int):Rat)/((q.den:Nat):Rat)=q:=by have:=Rat.num_divInt_den q;rw[Rat.divInt_eq_div,QD]at this;exact this
  have e1:((q.den:Nat):Rat)≠0:=by
   intro h;have:q.den=0:=by exact_mod_cast h
   have:=q.den_pos;omega
  have e2:((q.num:Int):Rat)=q*((q.den:Nat):Rat):=by
   have:((q.num:Int):Rat)/((q.den:Nat):Rat)*((q.den:Nat):Rat)=((q.num:Int):Rat):=by grind
   rw[e0]at this;exact this.symm
  rw[h,e2];grind
 have h2:z*(q.den:Int)=(d:Int)*q.num:=by exact_mod_cast h1
 have h3:=congrArg Int.natAbs h2;rw[Qk,Qk,Qj,Qj]at h3;rw[<- h3];exact Qp _ q.den_pos
theorem SmE.whole(h:SmE k Q){i:Nat}(hr:(Q[i]?.getD []).length=m)(j:Nat):(Zaf (Z8 Q) i j).natAbs<=pw (k*m+k):=by
 refine Qe (Zq7 (Zgu Q i j)) ?_;rw[Zdw];exact Qo (h.denAt hr) (h i j).1
end
def qM(rs:List RX):List (List Rat):=rs.map λr=>r.es.map FX.q
section
variable{w:World}{A:Option Addr}{n c:Nat}{rs:List RX}
theorem Zvw(h:MXL w A n c rs):(qM rs).length=n:=by unfold qM;rw[Qs];exact h.1
end
def Zu(A:Nat->Nat->Rat):Nat->Nat->Nat->Rat
 | 0,i,k=>A i k
 | t+1,i,k=>if t<i then Zu A t i k-Zu A t i t/Zu A t t t*Zu A t t k else Zu A t i k
theorem Zm7{A:Nat->Nat->Rat}{i k:Nat}:∀ {t:Nat},i<=t->Zu A t i k=Zu A i i k
 | 0,h=>by rw[show i=0 by omega]
 | t+1,h=>by
  by_cases hit:i=t+1;rw[hit];show (if t<i then _ else _)=_;rw[Gw Gk];exact Zm7 Gk
theorem Zfd{A:Nat->Nat->Rat}{t i k:Nat}(h:t<i):Zu A (t+1) i k=Zu A t i k-Zu A t i t/Zu A t t t*Zu A t t k:=by
 show (if t<i then _ else _)=_;rw[Gx h]
theorem Zfg{A:Nat->Nat->Rat}{n:Nat}(hA:∀ i k,i<n->k<n->A i k=A k i):∀ (t i k:Nat),t<=i->t<=k->i<n->k<n->Zu A t i k=Zu A t k i
 | 0,i,k,_,_,hi,hk=>hA i k hi hk
 | t+1,i,k,h1,h2,hi,hk=>by
  rw[Zfd Gk,Zfd Gk,Zfg hA t i k Gk Gk hi hk,Zfg hA t i t Gk Gk hi Gk,Zfg hA t t k Gk Gk Gk hk];rw[Rat.div_def,Rat.div_def]
  grind
theorem Zcu{A C:Nat->Nat->Rat}{n m:Nat}(h:∀ i k,i<n->k<m->A i k=C i k)(hnm:n<=m):∀ (t i k:Nat),t<=n->i<n->k<m->Zu A t i k=Zu C t i k
 | 0,i,k,_,hi,hk=>h i k hi hk
 | t+1,i,k,ht,hi,hk=>by
  show (if t<i then _ else _)=(if t<i then _ else _);rw[Zcu h hnm t i k Gk hi hk,Zcu h hnm t i t Gk hi Gk,Zcu h hnm t t t Gk Gk Gk,Zcu h hnm t t k Gk Gk hk]
def dQ(A:Nat->Nat->Rat)(i:Nat):Rat:=Zu A i i i
def lQ(A:Nat->Nat->Rat)(i k:Nat):Rat:=Zu A k i k/dQ A k
theorem Zmu{A:Nat->Nat->Rat}{n:Nat}(hA:∀ i k,i<n->k<n->A i k=A k i){t i k:Nat}(ht:t<k)(hk:k<=i)(hi:i<n)(hd:dQ A t≠0) :
    Zu A (t+1) i k=Zu A t i k-lQ A i t*lQ A k t*dQ A t:=by
 rw[Zfd Gk,Zfg hA t t k Gk Gk Gk Gk];unfold lQ dQ at *
 grind
theorem Zy0{A:Nat->Nat->Rat}{t i k:Nat}(ht:t<i):Zu A (t+1) i k=Zu A t i k-lQ A i t*Zu A t t k:=by
 rw[Zfd ht];rfl
def Zfs(R:List (List Rat)):Nat->List (List Rat)
 | 0=>R
 | t+1=>Zbv (Zfs R t) t t
theorem Zhx(R:List (List Rat)):∀ t,(Zfs R t).length=R.length
 | 0=>rfl
 | t+1=>by
  show (Zbv _ _ _).length=_;rw[Ze8];exact Zhx R t
def posP(A:Nat->Nat->Rat)(n:Nat):Prop:=∀ t,t<n->0<dQ A t
theorem posP.mono{A:Nat->Nat->Rat}{n m:Nat}(h:posP A n)(hm:m<=n):posP A m:=λt ht=>h t Gk
theorem posP.ne{A:Nat->Nat->Rat}{n:Nat}(h:posP A n){t:Nat}(ht:t<n):dQ A t≠0:=λh0=>by have:=h t ht;rw[h0]at this;exact absurd this Gj
section
variable{B S n m:Nat}{R:List (List Rat)}
theorem Zij{pc:Nat->Nat}{G:Nat->Nat->Rat}{s:Nat->Rat}(h0:EIR B S n m 0 0 R pc G s):∀ t,t<=n->t<=m->posP (Zj R) t->(∃ pc,EIR B S n m t t (Zfs R t) pc G s)/\∀ i k,i<n->Zj (Zfs R t) i k=Zu (Zj R) t i k
 | 0,_,_,_=>⟨⟨_,h0⟩,λi k _=>rfl⟩
 | t+1,hn,hm,hp=>by
  obtain⟨⟨pc,h1⟩,h2⟩:=Zij h0 t Gk Gk (hp.mono Gk);have h0:Zj (Zfs R t) t t≠0:=by rw[h2 t t Gk];exact hp.ne Gk
  refine⟨⟨_,h1.clear Gk Gk h0⟩,λi k hi=>?_⟩;show Zj (Zbv (Zfs R t) t t) i k=if t<i then _ else _;rw[Zgv (m:=m) (λi hi=>h1.row i (by rw[h1.len]at hi;exact hi)) (λj hj=>h1.low t j (Qb _) Gk hj) i k (by rw[h1.len];exact hi) (by rw[h1.len];omega)]
  by_cases hti:t<i;rw[Gw Gk,Gx hti,h2 i k hi,h2 i t hi,h2 t t Gk,h2 t k Gk];rw[Gx Gk,Gw hti,h2 i k hi]
theorem Z0a(hl:R.length=n)(hrow:∀ i,i<n->(R[i]?.getD []).length=m)(hS:∀ i,i<n->denAt R i<=S)(hBd:∀ i j,i<n->(Zaf (Z8 R) i j).natAbs<=B)(t:Nat)(hn:t<=n)(hm:t<=m)(hp:posP (Zj R) t) :
    (∃ pc G s,EIR B S n m t t (Zfs R t) pc G s)/\∀ i k,i<n->Zj (Zfs R t) i k=Zu (Zj R) t i k:=by
 obtain⟨⟨pc,h1⟩,h2⟩:=Zij (Znt R hl hrow hS hBd).1 t hn hm hp;exact⟨⟨_,_,_,h1⟩,h2⟩
theorem Ztw{D:Nat}(hl:R.length=n)(hrow:∀ i,i<n->(R[i]?.getD []).length=m)(hD:0<D)(hB:∀ i j,i<n->BndQ B ((D:Nat)*Zj R i j)):EIR B D n m 0 0 R (λ_=>0) (λi j=>(D:Nat)*Zj R i j) (λ_=>(D:Nat)):=by
 refine⟨hl,hrow,λl h=>by omega,λl l' _ h=>by omega,λi j _ _ h=>by omega,λl j h=>by omega,λl h=>by omega,Qv _,Qv _,λi hi=>⟨⟨(D:Nat),by rw[QD],by rw[Qj];exact Qb _⟩,λh0=>?_⟩,λi j hi=>hB i j hi,λN f σ _ _ _=>rfl⟩;have:D=0:=by exact_mod_cast h0
 omega
end
section
variable{k n m:Nat}{R:List (List Rat)}
end
theorem SmE.red2{k n m:Nat}{R:List (List Rat)}(h:SmE k R)(hl:R.length=n)(hn:n<=900)(hrow:∀ i,i<n->(R[i]?.getD []).length=m){t:Nat}(ht:t<=n)(htm:t<=m)(hp:posP (Zj R) t){i:Nat}(hi:i<n)(j:Nat):SmN ((k*m+k+1)*n+1) ((k*m+k+1)*n+k*m+1) (Zu (Zj R) t i j):=by
 obtain⟨⟨pc,G,s,h3⟩,h4⟩:=Z0a (B:=pw (k*m+k)) (S:=pw (k*m)) hl hrow (λi hi=>h.denAt (hrow i hi)) (λi j hi=>h.whole (hrow i hi) j) t ht htm hp;obtain⟨h5,h6⟩:=h3.bound (Zby _) hi j;rw[h4 i j hi]at h5 h6;have hb:=Zkh (b:=k*m+k) n hn;refine⟨Qa (Qe h5 hb) (Zdm Gk),?_⟩;refine Qa (Qe h6 (Qo hb (Qb _))) ?_;rw[<- Zdw];exact Zdm Gk
structure FacP (A:Nat->Nat->Rat) (n:Nat):Prop where
 sym:∀ i k,i<n->k<n->A i k=A k i
 s:∀ t i k,t<=n->posP A t->i<n->k<n->SmN 380 380 (Zu A t i k)
 l:∀ i k,k<=i->i<n->posP A (k+1)->SmN 300 300 (lQ A i k)
section
variable{A:Nat->Nat->Rat}{n:Nat}
theorem FacP.d(h:FacP A n){k:Nat}(hk:k<n)(hp:posP A k):SmN 380 380 (dQ A k):=h.s k k k Gk hp hk hk
theorem FacP.ll(h:FacP A n){i j k:Nat}(hki:k<=i)(hi:i<n)(hkj:k<=j)(hj:j<n)(hp:posP A (k+1)):SmN 600 600 (lQ A i k*lQ A j k):=((h.l i k hki hi hp).mulN (h.l j k hkj hj hp)).mono Gj Gj
theorem FacP.lld(h:FacP A n){i j k:Nat}(hki:k<=i)(hi:i<n)(hkj:k<=j)(hj:j<n)(hp:posP A (k+1)):SmN 980 980 (lQ A i k*lQ A j k*dQ A k):=((h.ll hki hi hkj hj hp).mulN (h.d (show k<n by omega) (hp.mono Gk))).mono Gj Gj
end
theorem FacP.unif{n D b e:Nat}{R:List (List Rat)}(hl:R.length=n)(hn:n<=900)(hrow:∀ i,i<n->(R[i]?.getD []).length=n)(hA:∀ i k,i<n->k<n->Zj R i k=Zj R k i)(hD:0<D)(hDe:D<=pw e)(hB:∀ i j,i<n->BndQ (pw b) ((D:Nat)*Zj R i j))
    (h1:(b+1)*n<300) (h2:(b+1)*n+e<380):FacP (Zj R) n:=by
 have h0:=Ztw hl hrow hD hB;have hb:=Zkh (b:=b) n hn
 have o:((D:Nat):Rat)≠0:=λh=>by
  have:D=0:=by exact_mod_cast h
  omega
 refine⟨hA,λt i j ht hp hi _=>?_,λi k hki hi hp=>?_⟩
 ·obtain⟨⟨pc,h3⟩,h4⟩:=Zij h0 t ht ht hp
  obtain⟨h5,h6⟩:=h3.bound (Zby _) hi j;rw[h4 i j hi]at h5 h6;refine⟨Qa (Qe h5 hb) (Zdm Gk),?_⟩;refine Qa (Qe h6 (Qo hb hDe)) ?_;rw[<- Zdw];exact Zdm Gk
 obtain⟨⟨pc,h3⟩,h4⟩:=Zij h0 k Gk Gk (hp.mono Gk);have m1:=h3.minor hi k;have m2:=h3.minor (show k<n by omega) k;rw[show min i k=k by omega,h4 i k hi]at m1;rw[Nat.min_self,h4 k k Gk]at m2;have hd:Zu (Zj R) k k k≠0:=hp.ne Gk;have f:=h3.piv_ne (l:=k) (Qb _)
 have e1:Zet (Zfs R k) pc (λ_=>((D:Nat):Rat)) k*(((D:Nat):Rat)*Zu (Zj R) k k k)*lQ (Zj R) i k=Zet (Zfs R k) pc (λ_=>((D:Nat):Rat)) k*(((D:Nat):Rat)*Zu (Zj R) k i k):=by
  unfold lQ dQ
  grind
 rw[<- e1]at m1
 obtain⟨h5,h6⟩:=Zfl m1 m2 (λh=>by
  rcases Rat.mul_eq_zero.1 h with h7|h7;exact f h7;rcases Rat.mul_eq_zero.1 h7 with h8|h8;exact o h8;exact hd h8)
 have hm:=Zc7 (B:=pw b) (m:=k+1) (n:=n) (Zby _) Gk;exact⟨Qa (Qe h5 (Qe hm hb)) (Zdm Gk),Qa (Qe h6 (Qe hm hb)) (Zdm Gk)⟩
theorem FacP.of{k n:Nat}{R:List (List Rat)}(h:SmE k R)(hl:R.length=n)(hn:n<=900)(hrow:∀ i,i<n->(R[i]?.getD []).length=n)(hA:∀ i k,i<n->k<n->Zj R i k=Zj R k i)(h1:(k*n+k+1)*n+((k*n+k+1)*n+k*n)+2<=300):FacP (Zj R) n:=by
 refine⟨hA,λt i j ht hp hi _=>(h.red2 hl hn hrow ht ht hp hi j).mono Gk Gk,λi j hji hi hp=>?_⟩;have hj:j<n:=Gk;have a:=h.red2 hl hn hrow (t:=j) Gk Gk (hp.mono Gk) hi j;have b:=h.red2 hl hn hrow (t:=j) Gk Gk (hp.mono Gk) hj j;exact(a.divN b (hp.ne Gk)).mono Gk Gk
