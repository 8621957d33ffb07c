/- Centroids: sums over a list of pixels, moments about a -/
import Derived.Deep.LoopGhost
import Derived.Lib.AppendZeros
import Derived.Deep.MidRow
import Derived.Test.YtdkhcplnoomcbaaGreatDoorZb09
import Derived.Test.YtdkhcplnoomcbaaGreatDoorZb08
set_option maxRecDepth 100000
set_option maxHeartbeats 8000000
set_option linter.unusedSimpArgs false
set_option linter.unusedVariables false
namespace Go.Proofs.YtdkhcplnoomcbaaGreatDoor
open Go.RowKit
open List renaming getElem?_eq_getElem→Qa,length_append→Qb,mem_of_getElem?→Qc,all_eq_true→Qh,getElem?_map→Qi,eq_nil_of_length_eq_zero→Qj,getElem_of_mem→Qk,length_map→Qo,take_of_length_le→Qp,any_eq_false→Qv,getElem?_set→QA,mem_or_eq_of_mem_set→QB,any_eq_true→QC,flatten_append→QH,map_toArray→QJ,not_mem_nil→QL,map_append→QN,nil_append→QO,length_set→QP,replicate→QQ
open Below renaming refl→Qd
open Nat renaming lt_of_lt_of_le→Qe,le_refl→Qg,le_trans→Ql,add_sub_cancel'→Qm,lt_of_le_of_lt→Qs,lt_or_ge→Qt,zero_add→Qw,zero_le→Qy,not_lt_zero→QD
open Act renaming put→Qf
open Int renaming natAbs_natCast→Qn,natAbs_mul→Qq
open Bool renaming and_eq_true→Qr,or_eq_true→QE,false_or→QF,true_and→QG
open Builtin renaming zeroCells→Qu
open Ne renaming symm→Qx
open _root_.Array renaming getD_eq_getD_getElem?→Qz
open Rat renaming zero_add→QI,divInt→QM
open Option renaming getD_some→QK
open And renaming intro→QR
theorem Zry(a b:Int)(h:b≠0):(QM a b).num.natAbs<=a.natAbs:=by
 rw[Rat.num_divInt];rw[Int.natAbs_ediv_of_dvd];exact Fh;exact Int.dvd_trans (Int.gcd_dvd_right _ _) (Int.dvd_mul_left _ _)
theorem Zqp(a b:Int)(h:b≠0):(QM a b).den<=b.natAbs:=by
 rw[Rat.den_divInt,Gw h];exact Nat.div_le_self _ _
theorem Zdh:1<pw 1:=by rw[Zbh,Zd6];decide
def SmN(i j:Nat)(r:Rat):Prop:=r.num.natAbs<pw i/\r.den<pw j
theorem SmN.sm{i j:Nat}{r:Rat}(h:SmN i j r)(hi:i<=1000)(hj:j<=1000):Sm r:=⟨Qe h.1 (Zbm hi),Qe h.2 (Zbm hj)⟩
theorem SmN.mono{i j i' j':Nat}{r:Rat}(h:SmN i j r)(hi:i<=i')(hj:j<=j'):SmN i' j' r:=⟨Qe h.1 (Zbm hi),Qe h.2 (Zbm hj)⟩
theorem SmN.div{i j:Nat}{n s:Int}(h0:0<s)(hn:n.natAbs<pw i)(hs:s.natAbs<pw j):SmN i j (QM n s):=
 ⟨Qs (Zry n s Gk) hn,Qs (Zqp n s Gk) hs⟩
theorem SmN.int{i:Nat}{n:Int}(hn:n.natAbs<pw i):SmN i 1 (n:Rat):=⟨by simpa using hn,by simp only[Rat.den_intCast];exact Zdh⟩
theorem SmN.mul{i j i' j':Nat}{a b:Rat}(ha:SmN i j a)(hb:SmN i' j' b):SmN (i+i') (j+j') (a*b):=by
 rw[<- Zn7];refine SmN.div (Zcx a b) ?_ ?_;rw[Qq];exact Zb6 ha.1 hb.1;rw[Qq];exact Zb6 (by simpa using ha.2) (by simpa using hb.2)
theorem Znc{x y z v:Int}{i j i' j':Nat}(hx:x.natAbs<pw i)(hy:y.natAbs<pw j)(hz:z.natAbs<pw i')(hv:v.natAbs<pw j'):(x*y).natAbs+(z*v).natAbs<pw (max (i+j) (i'+j')+1):=by
 have h1:(x*y).natAbs<pw (max (i+j) (i'+j')):=by
  rw[Qq];exact Qe (Zb6 hx hy) (Zbm Gk)
 have h2:(z*v).natAbs<pw (max (i+j) (i'+j')):=by
  rw[Qq];exact Qe (Zb6 hz hv) (Zbm Gk)
 have h3:=Zhy (max (i+j) (i'+j'));omega
theorem SmN.dn{i j:Nat}{r:Rat}(h:SmN i j r):((r.den:Nat):Int).natAbs<pw j:=by simpa using h.2
theorem Is{G:Prop}(h:G:=by
 refine SmN.div (Zcx a b) ?_ ?_;have:=Znc ha.1 hb.dn hb.1 ha.dn;omega;rw[Int.natAbs_mul];exact Zb6 ha.dn hb.dn):G:=h
theorem SmN.sub{i j i' j':Nat}{a b:Rat}(ha:SmN i j a)(hb:SmN i' j' b):SmN (max (i+j') (i'+j)+1) (j+j') (a-b):=by
 rw[<- Zsy];exact Is
theorem SmN.add{i j i' j':Nat}{a b:Rat}(ha:SmN i j a)(hb:SmN i' j' b):SmN (max (i+j') (i'+j)+1) (j+j') (a+b):=by
 rw[<- rat_add];exact Is
structure RF where
 g:Nat
 c:Nat
 q:List Rat
def RF.rs(r:RF):RS:=⟨some ⟨r.g,0,none⟩,r.q.length,r.c⟩
def MatB(tS tF:TypeId)(w:World)(go:Nat)(L:List RF):Prop:=
 (∃ zs,Blk w go tS (Zao (L.map RF.rs++zs)))/\(∀ r ∈ L,FOwn tF w r.g r.q/\r.q.length<=r.c/\r.c<=maxLen)/\(go::L.map RF.g).Nodup
section
variable{tS tF:TypeId}{w w':World}{go:Nat}{L:List RF}
theorem Iv{G:Prop}(h:G:=by
 obtain⟨⟨zs,h1⟩,h2,h3⟩:=h;exact⟨⟨zs,Zc hb h1⟩,λr hr=>⟨(h2 r hr).1.below hb,(h2 r hr).2⟩,h3⟩):G:=h
theorem MatB.below(h:MatB tS tF w go L)(hb:Below w.heap.size w w'):MatB tS tF w' go L:=by
 exact Iv
theorem Fq{G:Prop}(h:G:=by
 obtain⟨⟨zs,h1⟩,-,-⟩:=h;refine⟨?_,h1.frozen i⟩;rw[h1.cell];refine Zea (e:=r.rs) ?_;have hi:=(List.getElem?_eq_some_iff.1 hr).1;rw[List.getElem?_append_left (by simpa using hi),List.getElem?_map,hr];rfl):G:=h
theorem MatB.cell(h:MatB tS tF w go L){i:Nat}{r:RF}(hr:L[i]?=some r):w.cell? ⟨go,i,none⟩=some (.slice (some ⟨r.g,0,none⟩) r.q.length r.c)/\w.frozen? ⟨go,i,none⟩=false:=by
 exact Fq
theorem MatB.row(h:MatB tS tF w go L){i:Nat}{r:RF}(hr:L[i]?=some r):FOwn tF w r.g r.q/\r.q.length<=r.c/\r.c<=maxLen:=h.2.1 r (Qc hr)
theorem Zvm{α:Type}{l:List α}{i j:Nat}{x y:α}(hx:l[i]?=some x)(hy:l[j]?=some y):Zae l i j=(l.set i y).set j x:=by unfold Zae;rw[hx,hy]
theorem Zje{α β:Type}(f:α->β)(l:List α)(i j:Nat):(Zae l i j).map f=Zae (l.map f) i j:=by
 unfold Zae;rw[Qi,Qi];cases l[i]? with
 | none=>rfl
 | some x=>cases l[j]? with
  | none=>rfl
  | some y=>simp[List.map_set]
theorem Zhs{α:Type}(l:List α)(i j:Nat):∀ x,x ∈ Zae l i j->x ∈ l:=by
 intro x hx;unfold Zae at hx
 split at hx
 ·rename_i a b ha hb
  rcases QB hx with hx|rfl
  ·rcases QB hx with hx|rfl
   exact hx;exact Qc hb
  exact Qc ha
 exact hx
theorem Zqj{l:List Nat}(h:l.Nodup){i j:Nat}(hi:i<l.length)(hj:j<l.length):(Zae l i j).Nodup:=by
 unfold List.Nodup;rw[List.pairwise_iff_getElem];intro a b ha hb o e;rw[Zdz]at ha hb;have h1:(Zae l i j)[a]?=(Zae l i j)[b]?:=by rw[Qa (by rw[Zdz];exact ha),Qa (by rw[Zdz];exact hb),e]
 rw[Zdg hi hj,Zdg hi hj]at h1;have f:swI i j a<l.length:=Zgr hi hj ha;have:=(List.getElem?_inj f h).1 h1;have h2:swI i j (swI i j a)=swI i j (swI i j b):=by rw[this]
 rw[Zoh,Zoh]at h2;omega
end
section
variable{a b:Rat}{i j k l:Nat}
theorem SmN.mulN(h:SmN i j a)(g:SmN k l b):SmN (i+k) (j+l) (a*b):=by
 rw[<- Zn7 a b];have hd:((a.den:Int)*(b.den:Nat))≠0:=Int.ne_of_gt (Zcx a b);refine⟨Qs (Zry _ _ hd) ?_,Qs (Zqp _ _ hd) ?_⟩;rw[Qq];exact Zb6 h.1 g.1;rw[Qq,Qn,Qn];exact Zb6 h.2 g.2
end
attribute [local go_sem] Zf
theorem Zc8{α:Type}{L:List α}{i:Nat}(h:i<L.length):∃ r,L[i]?=some r:=⟨_,Qa h⟩
theorem Zod{α β:Type}{f:α->β}{L:List α}{i:Nat}{r s:α}(hr:L[i]?=some r)(h:f s=f r):(L.set i s).map f=L.map f:=by
 rw[List.map_set];apply List.ext_getElem?;intro j;rw[QA]
 split
 ·rename_i hij
  subst hij;have hi:=(List.getElem?_eq_some_iff.1 hr).1;rw[Gx (by simpa using hi),Qi,hr,h];rfl
 rfl
section
variable{P:Program}(w:World)
theorem Zcq{o:Oper}{a:Act}{K:Act->World->Prop}{Q:Exit->Act->World->Prop}(s x:Operand)(t:TypeId)
    (ho:o.op=.call { callee:=.builtin .append,args:=#[s,x],argTypes:=#[t,t] })
    (base:Nat) (e:TypeId) (i:TypeInfo) (ht:P.underlying t=some (.slice e)) (hi:P.info? e=some i) (hz:i.zero=some (.slice none 0 0)) (hsi:i.size=1) (hby:i.bytes=24)
    (v:Value) (rs:List RS) (hs:a.eval s=v) (hown:RowS e w base v rs)
    (B:Nat) (A:Option Addr) (m c:Nat) (fs:List RS) (hx:a.eval x=.slice A m c) (hr:Reads w B 1 A m (Zax fs)) (hm:fs.length=m)
    (h63:rs.length+m<=1000) (hbase:base<=w.heap.size)
    (h:∀ v' w',RowS e w' base v' (rs++fs)->w.grownBy w' v.ownBlock->(∀ (A:Option Addr) (n c:Nat) (l:List Nat),Lim w A n c l->Lim w' A n c l)->K (a.put o.dst v') w'):o.wp P a w K Q:=by
 obtain⟨v',w',f,h3,h4⟩:=Zk3 (P:=P) w base t o.type e i ht hi hz hsi hby v rs hown B A m c fs hr hm h63 hbase;unfold Oper.wp execOp;simp only[ho,resolve,invoke,builtin,Sem.run_bind,Sem.run_pure,Result.andThen_ok,QJ,List.map_cons,List.map_nil,hs,hx,f];exact h v' w' h3 h4 (λ_ _ _ _ hL=>hown.keep h4 hL)
end
theorem FL.reads{w:World}{A:Option Addr}{n c:Nat}{qs:List Rat}(h:FL w A n c qs):∃ fs:List FE,Reads w w.heap.size 4 A n (Zs fs)/\fs.length=n/\(∀ e ∈ fs,e.in_ w)/\fs.map FE.q=qs:=by
 obtain⟨es,h1,h2,h3,h4,h5,h6⟩:=h;refine⟨es,⟨by rw[Zy,h1],λhn=>?_⟩,h1,h4,h5⟩;obtain⟨g,o,e1,hc⟩:=h6 hn;refine⟨⟨g,o,none⟩,e1,?_,λj u hu=>?_⟩
 ·have:=(hc 0 es[0] (Qa Gk)).1
  exact Zn this
 rw[Zf]
 have hj:j<es.length*4:=by
  have:=(List.getElem?_eq_some_iff.1 hu).1
  rwa [Zy]at this
 have he:=Qa (show j/4<es.length by omega);have hg:=Zib he;have hm:=hc (j/4) _ he;have h4:j%4=0 \/ j%4=1 \/ j%4=2 \/ j%4=3:=Gk;rcases h4 with h2|h2|h2|h2;rw[show j/4*4=j by omega]at hg hm;rw[hg.1]at hu;cases hu;exact hm.1;rw[show j/4*4+1=j by omega]at hg hm;rw[hg.2.1]at hu;cases hu;exact hm.2.1;rw[show j/4*4+2=j by omega]at hg hm;rw[hg.2.2.1]at hu;cases hu;exact hm.2.2.1;rw[show j/4*4+3=j by omega]at hg hm;rw[hg.2.2.2]at hu;cases hu;exact hm.2.2.2
theorem Zg9:(Tryz.prog.info? 32).map (λi=>(i.zero,i.size,i.bytes))=some (some (.agg #[.bool false,.slice none 0 0,.bool false,.slice none 0 0]),4,64):=by kernel_rfl
theorem Zop:(Tryz.prog.info? 25).map (λi=>(i.zero,i.size,i.bytes))=some (some (.slice none 0 0),1,24):=by kernel_rfl
theorem Blk.type{w:World}{g:Nat}{t t':TypeId}{cs cs':Array Value}(h:Blk w g t cs)(h':Blk w g t' cs'):t=t':=by
 unfold Blk at h h';rw[h]at h';cases h';rfl
section
variable{tS tF:TypeId}{w w':World}{base:Nat}{v v':Value}{L:List RF}
theorem RowS.ownType{rs:List RS}(h:RowS tS w base v rs){g:Nat}{cs:Array Value}(hb:Blk w g tF cs)(hne:tS≠tF):v.ownBlock≠some g:=by
 rintro e;rcases h with ⟨rfl,_⟩|⟨g',sp,rfl,_,_,h4⟩;cases e;have:g'=g:=by simpa [Value.ownBlock]using e
 subst this;exact hne (h4.type hb)
theorem FOwn.grown{g:Nat}{qs:List Rat}(h:FOwn tF w g qs)(hg:w.grownBy w' v.ownBlock)(hne:v.ownBlock≠some g)(hk:∀ (A:Option Addr) (n c:Nat) (l:List Nat),Lim w A n c l->Lim w' A n c l):FOwn tF w' g qs:=by
 obtain⟨es,zs,h1,h2,h3⟩:=h;exact⟨es,zs,(hg.block g h1.lt (λe=>hne (by first|exact e|exact e.symm))).trans h1,λe he=>(h2 e he).of_keep hk,h3⟩
end
theorem Zox(k:Nat)(w:World)(h0:0<k)(h9:k<=900) :
    Calls Tryz.prog 88 #[.slice none 0 0,.int .i64 k] w λe w'=>∃ v,e=.returned v/\Below w.heap.size w w'/\OwnF 32 w' w.heap.size v []:=by
 obtain⟨iF,hi,I,U,E⟩:=info_parts Zg9;have u:=grownCap_ge w k 0 32;have C:=grownCap_le_maxLen w k 0 32 (by unfold maxLen;omega);obtain⟨cap,o⟩:=Gz (grownCap w k 0 32);have f:=λty=>Go.Lib.run_append_nil_zeros (P:=Tryz.prog) w 25 3 ty 32 iF _ .i64 .i64 Tryz.underlying25 Tryz.underlying3 hi I k h0 Gk Gk (by rw[E];omega);obtain⟨W1,h⟩:=Gz (w.drew.alloc (.cells (Qu (Value.agg #[.bool false,.slice none 0 0,.bool false,.slice none 0 0]).cells k++Qu (Value.agg #[.bool false,.slice none 0 0,.bool false,.slice none 0 0]).cells (grownCap w k 0 32-k)) 32));rw[h,o]at f;rw[o]at u C h;obtain⟨g,hg⟩:=Gz w.heap.size;have hb:Below w.heap.size w W1:=by rw[<- h];exact((Zg (Qd _ _) 1).alloc (Qg _) _)
 have J:Blk W1 g 32 (Zay (QQ cap Zbu)):=by
  have h1:Qu (Value.agg #[.bool false,.slice none 0 0,.bool false,.slice none 0 0]).cells k++Qu (Value.agg #[.bool false,.slice none 0 0,.bool false,.slice none 0 0]).cells (cap-k)=Zay (QQ cap Zbu):=by
   apply Array.toList_inj.1;rw[Array.toList_append,show (Value.agg #[.bool false,.slice none 0 0,.bool false,.slice none 0 0]).cells=#[.bool false,.slice none 0 0,.bool false,.slice none 0 0] from rfl,Zci,Zci,<- Za0,List.replicate_append_replicate,Qm u];rfl
  rw[<- h,h1,<- hg];exact Blk.new _ _ _
 rw[hg]at f hb ⊢;have t1:¬ ((k:Int)<0):=Gk;have t2:decide ((k:Int)<0)=false:=Gu t1;have t3:decide ((k:Int)>0)=true:=Gv Gk;have t4:decide ((0:Int)<(k:Int))=true:=Gv Gk;have t5:decide (0<k)=true:=Gv h0;have O:(0:Int)<=(cap:Int):=Gk;clear h hg o;go_in;go_wp2_with (at_builtin;refine Go.Lib.wpList_append_run w rfl (.tmp 20) (.tmp 21) 25 3 rfl (.slice none 0 0) (.int .i64 k) rfl rfl _ _ (f _) ?_);go_ret;exact⟨_,rfl,hb,[],.inr ⟨g,cap,by simp,Qg _,by simpa using C,by simpa using J⟩,λe he=>(by cases he),rfl⟩
theorem Zhc{α:Type}(l:List (List α)){i:Nat}{x:List α}(h:l[i]?=some x):(l.take (i+1)).flatten=(l.take i).flatten++x:=by
 rw[List.take_add_one,h,QH];simp
theorem Zic{α:Type}(l:List (List α))(i:Nat):(l.take i).flatten.length<=l.flatten.length:=by
 have h:l.flatten=(l.take i).flatten++(l.drop i).flatten:=by rw[<- QH,List.take_append_drop]
 rw[h,Qb];omega
theorem Fg{G:Prop}(h:G:=by
 have au:=hB.grown gW hs (λk hk=>hO.row_ge k hk);rw[gS,<- e1.out]at aJ
 go_roundg (i-(j+1))
 case measure=>omega
 case rel=>exact⟨j+1,_,by omega,by go_num,rfl,au,aJ⟩):G:=h
theorem Fp{G:Prop}(h:G:=by
 have t2:decide ((s:Int)+(y:Int)<0)=false:=Gu Gk;clear e1;go_wp2_with fail
 go_roundg (n-(i+1))
 case measure=>omega
 case rel=>exact⟨i+1,s+y,by omega,by go_num,by go_num,e3,Zb rfl⟩):G:=h
theorem Zt7(go n c:Nat)(L:List RF)(w:World)(hM:MatB 25 32 w go L)(hl:L.length=n)(hn9:n<=900)(hc:n<=c)(hcm:c<=maxLen)(h0:0<(L.map RF.q).flatten.length)(h9:(L.map RF.q).flatten.length<=900) :
    Calls Tryz.prog 61 #[.slice (some ⟨go,0,none⟩) n c] w λe w'=>∃ v,e=.returned v/\Below w.heap.size w w'/\OwnF 32 w' w.heap.size v (L.map RF.q).flatten:=by
 obtain⟨iF,hi,I,U,Y⟩:=info_parts Zg9;unfold maxLen at hcm;replace hl:=Zb hl;replace hM:=Zb hM;obtain⟨T,hT⟩:=Gz ((L.map RF.q).flatten.length);rw[hT]at h0 h9;have C:Hid (∀ i,((L.map RF.q).take i).flatten.length<=T):=Zb (λi=>by rw[<- hT];exact Zic _ i);replace hT:=Zb hT;go_in;go_wp2_with fail
 go_loopg [11,3] n (λk iv sv wr=>∃ i s:Nat,i+k=n/\iv=.int .i64 i/\sv=.int .i64 s/\Hid (((L.map RF.q).take i).flatten.length=s)/\Hid (wr=w))
 case atStart=>exact⟨0,0,by omega,rfl,rfl,Zb Gh,Zb rfl⟩
 case round =>
  obtain⟨i,s,a6,rfl,rfl,hs,u⟩:=hrel;have u:=u.out;subst u;obtain⟨w3,J⟩:∃ x:World,x=wr:=⟨_,rfl⟩;subst J;cases gk with
  | zero =>
   obtain rfl:i=n:=Gk;have t1:decide ((i:Int)<(i:Int))=false:=Gh
   obtain rfl:s=T:=by
    rw[<- hs.out,Qp (by rw[Qo,hl.out];exact Qg _)];exact hT.out
   go_wp2_with fail;refine(Zox s _ h0 h9).mono ?_;rintro e w1 ⟨v,rfl,E,f⟩;obtain⟨vA,vc,rfl,-⟩:=f.fl;replace f:=Zb f;go_wp2_with fail
   go_loopg [27,6] i (λk iv ov w2=>∃ (j:Nat) (v:Value),j+k=i/\iv=.int .i64 j/\ov=v/\Below w3.heap.size w3 w2/\OwnF 32 w2 w3.heap.size v ((L.map RF.q).take j).flatten)
   case atStart=>exact⟨0,_,by omega,rfl,rfl,E,f.out⟩
   case round =>
    clear E f;obtain⟨j,v,a4,rfl,rfl,hB,hO⟩:=hrel;cases gk with
    | zero =>
     obtain rfl:j=i:=Gk;have t1:decide ((j:Int)<(j:Int))=false:=Gh;replace hO:=Zb hO;go_wp2_with fail;go_ret;refine⟨_,rfl,hB,?_⟩;have h1:=hO.out;rw[Qp (by rw[Qo,hl.out];exact Qg _)]at h1;exact h1
    | succ k' =>
     obtain rfl:k'=i-(j+1):=Gk;have O:j<i:=Gk;have t1:decide ((j:Int)<(i:Int))=true:=Gv Gk;have bi:(j:Int)<(i:Int):=Gk;obtain⟨x,hx⟩:=Zc8 (L:=L) (i:=j) (by rw[hl.out];exact O);have h:=hM.out.below hB;obtain⟨cx,-⟩:=h.cell hx;obtain⟨fx,a2,a3⟩:=h.row hx;obtain⟨fs,hR,a1,o,gS⟩:=(fx.fl a2 a3).reads;have e1:=Zhc (L.map RF.q) (i:=j) (x:=x.q) (by rw[Qi,hx];rfl);have e2:=C.out (j+1);rw[e1,Qb]at e2;replace e1:=Zb e1;have e3:((L.map RF.q).take j).flatten.length+x.q.length<=1000:=Gk;replace e3:=Zb e3;replace o:=Zb o;have hs:=hB.size;clear fx e2 h;go_wp2_with (at_builtin;refine Zen _ rfl (.tmp 31) (.tmp 32) 25 rfl w3.heap.size 32 iF Tryz.underlying25 hi I U Y _ ((L.map RF.q).take j).flatten rfl hO _ _ _ _ fs rfl hR a1 o.out e3.out hs ?_;intro v2 w5 aJ gW a5);exact Fg
  | succ k' =>
   obtain rfl:k'=n-(i+1):=Gk;have a0:i<n:=Gk;have t1:decide ((i:Int)<(n:Int))=true:=Gv Gk;have bi:(i:Int)<(n:Int):=Gk;obtain⟨x,hx⟩:=Zc8 (L:=L) (i:=i) (by rw[hl.out];exact a0);obtain⟨cx,-⟩:=hM.out.cell hx;have e1:=Zhc (L.map RF.q) (i:=i) (x:=x.q) (by rw[Qi,hx];rfl);have e2:=C.out (i+1);rw[e1,Qb,hs.out]at e2;have e3:Hid (((L.map RF.q).take (i+1)).flatten.length=s+x.q.length):=Zb (by rw[e1,Qb,hs.out]);obtain⟨y,hy⟩:=Gz x.q.length;rw[hy]at cx e2 e3;exact Fp
theorem Zr4(A:Option Addr)(n c:Nat)(Q:List (List Rat))(w:World)(hM:MFL w A n c Q)(hn9:n<=900)(h0:0<Q.flatten.length)(h9:Q.flatten.length<=900) :
    Calls Tryz.prog 61 #[.slice A n c] w λe w'=>∃ v,e=.returned v/\Below w.heap.size w w'/\OwnF 32 w' w.heap.size v Q.flatten:=by
 obtain⟨iF,hi,a2,a4,a5⟩:=info_parts Zg9;have hl:=Zb hM.1;have hc:=hM.2.1;have a1:=hM.2.2.1;unfold maxLen at a1;replace hM:=Zb hM;obtain⟨T,hT⟩:=Gz Q.flatten.length;rw[hT]at h0 h9;have Y:Hid (∀ i,(Q.take i).flatten.length<=T):=Zb (λi=>by rw[<- hT];exact Zic _ i);replace hT:=Zb hT;go_in;go_wp2_with fail
 go_loopg [11,3] n (λk iv sv wr=>∃ i s:Nat,i+k=n/\iv=.int .i64 i/\sv=.int .i64 s/\Hid ((Q.take i).flatten.length=s)/\Hid (wr=w))
 case atStart=>exact⟨0,0,by omega,rfl,rfl,Zb Gh,Zb rfl⟩
 case round =>
  obtain⟨i,s,a9,rfl,rfl,hs,J⟩:=hrel;have J:=J.out;subst J;obtain⟨w3,a3⟩:∃ x:World,x=wr:=⟨_,rfl⟩;subst a3;cases gk with
  | zero =>
   obtain rfl:i=n:=Gk;have t1:decide ((i:Int)<(i:Int))=false:=Gh
   obtain rfl:s=T:=by
    rw[<- hs.out,Qp (by rw[hl.out];exact Qg _)];exact hT.out
   go_wp2_with fail;refine(Zox s _ h0 h9).mono ?_;rintro e w1 ⟨v,rfl,a0,u⟩;obtain⟨vA,vc,rfl,-⟩:=u.fl;replace u:=Zb u;go_wp2_with fail
   go_loopg [27,6] i (λk iv ov w2=>∃ (j:Nat) (v:Value),j+k=i/\iv=.int .i64 j/\ov=v/\Below w3.heap.size w3 w2/\OwnF 32 w2 w3.heap.size v (Q.take j).flatten)
   case atStart=>exact⟨0,_,by omega,rfl,rfl,a0,u.out⟩
   case round =>
    clear a0 u;obtain⟨j,v,a7,rfl,rfl,hB,hO⟩:=hrel;cases gk with
    | zero =>
     obtain rfl:j=i:=Gk;have t1:decide ((j:Int)<(j:Int))=false:=Gh;replace hO:=Zb hO;go_wp2_with fail;go_ret;refine⟨_,rfl,hB,?_⟩;have h1:=hO.out;rw[Qp (by rw[hl.out];exact Qg _)]at h1;exact h1
    | succ k' =>
     obtain rfl:k'=i-(j+1):=Gk;have O:j<i:=Gk;have t1:decide ((j:Int)<(i:Int))=true:=Gv Gk;have bi:(j:Int)<(i:Int):=Gk;obtain⟨g,o,A',n',c',C,cx,hF⟩:=(hM.out.below hB).at_ O;cases C;obtain⟨x,hx⟩:∃ x,Q[j]?=some x:=⟨_,Qa (by rw[hl.out];exact O)⟩;have h:Q[j]?.getD []=x:=by rw[hx];rfl
     rw[h]at hF;have f:=hF.len;obtain⟨fs,hR,a6,I,gS⟩:=hF.reads;have e1:=Zhc Q (i:=j) (x:=x) hx;have E:=hF.cap;unfold maxLen at E;have e2:=Y.out (j+1);rw[e1,Qb]at e2;replace e1:=Zb e1;have e3:(Q.take j).flatten.length+n'<=1000:=Gk;replace e3:=Zb e3;replace I:=Zb I;have hs:=hB.size;replace hx:=Zb hx;replace h:=Zb h;replace f:=Zb f;clear hF e2;go_wp2_with (at_builtin;refine Zen _ rfl (.tmp 31) (.tmp 32) 25 rfl w3.heap.size 32 iF Tryz.underlying25 hi a2 a4 a5 _ (Q.take j).flatten rfl hO _ _ _ _ fs rfl hR a6 I.out e3.out hs ?_;intro v2 w5 aJ gW a8);exact Fg
  | succ k' =>
   obtain rfl:k'=n-(i+1):=Gk;have U:i<n:=Gk;have t1:decide ((i:Int)<(n:Int))=true:=Gv Gk;have bi:(i:Int)<(n:Int):=Gk;obtain⟨g,o,A',y,c',C,cx,hF⟩:=hM.out.at_ U;cases C;obtain⟨x,hx⟩:∃ x,Q[i]?=some x:=⟨_,Qa (by rw[hl.out];exact U)⟩;have h:Q[i]?.getD []=x:=by rw[hx];rfl
   rw[h]at hF;have f:=hF.len;have e1:=Zhc Q (i:=i) (x:=x) hx;have e2:=Y.out (i+1);rw[e1,Qb,hs.out,f]at e2;have e3:Hid ((Q.take (i+1)).flatten.length=s+y):=Zb (by rw[e1,Qb,hs.out,f]);have E:=hF.cap;unfold maxLen at E;replace hx:=Zb hx;replace h:=Zb h;replace f:=Zb f;clear hF;exact Fp
def Zac(r:Rat):Bool:=decide ((digits r.num.natAbs).length<=64) && decide ((digits r.den).length<=64)
theorem Fr.short{w:World}{na nb:Bool}{A B:Option Addr}{n c m d:Nat}{r:Rat}(h:Fr w na A n c nb B m d r):Zac r=(decide (n<=64) && decide (m<=64)):=by
 have h1:=h.1.lim.len;have h2:=h.2.lim.len;rw[Qn]at h2;unfold Zac;rw[h1,h2]
theorem IY{G:Prop}(h:G:=by
 go_in;go_wp2_with fail;(try rw[bH]);go_ret;exact⟨rfl,ar⟩):G:=h
theorem Ze8(na nb:Bool)(A B:Option Addr)(n c m d:Nat)(r:Rat)(w:World)(h:Fr w na A n c nb B m d r) :
    Calls Tryz.prog 28 #[.agg #[.bool na,.slice A n c,.bool nb,.slice B m d]] w λe w'=>e=.returned (.bool (Zac r))/\Below w.heap.size w w':=by
 have f:=h.short;obtain⟨W0,bH,ar,q0,s0⟩:=Zbp w 32 #[.bool na,.slice A n c,.bool nb,.slice B m d];have hA:=Zb (h.below ar);obtain⟨x0,x1,x2,x3,-⟩:=q0.four;obtain⟨v,hv⟩:=Gz (Zac r);rw[hv]at f ⊢;replace f:=Zb f;replace hv:=Zb hv;clear q0;by_cases h1:n<=64
 case neg =>
  have t1:decide ((n:Int)<=64)=false:=Gu Gk;have o:decide (n<=64)=false:=Gu h1;obtain rfl:v=false:=by rw[f.out,o];rfl
  replace h1:=Zb h1;exact IY
 have t1:decide ((n:Int)<=64)=true:=Gv Gk;have o:decide (n<=64)=true:=Gv h1;by_cases h2:m<=64
 case neg =>
  have t2:decide ((m:Int)<=64)=false:=Gu Gk;have u:decide (m<=64)=false:=Gu h2;obtain rfl:v=false:=by rw[f.out,o,u];rfl
  replace h1:=Zb h1;replace h2:=Zb h2;exact IY
 have t2:decide ((m:Int)<=64)=true:=Gv Gk;have u:decide (m<=64)=true:=Gv h2;obtain rfl:v=true:=by rw[f.out,o,u];rfl
 replace h1:=Zb h1;replace h2:=Zb h2;go_in;go_wp2_with fail;(try rw[bH]);refine(Zdk na nb A B n c m d r W0 hA.out).mono ?_;rintro e w1 ⟨rfl,E⟩;have C:=Gs ar E;clear bH x0 x1 x2 x3;go_wp2_with fail;go_ret;exact⟨rfl,C⟩
theorem Zor(na nb:Bool)(A B:Option Addr)(n c m d:Nat)(la lb:List Nat)(w:World)(ha:Lim w A n c la)(hb:Lim w B m d lb)(hbad:okW na la=false) :
    Calls Tryz.prog 49 #[.agg #[.bool na,.slice A n c,.bool nb,.slice B m d]] w λe w'=>e=.returned (.int .i64 8)/\Below w.heap.size w w':=by
 have hmx:=Gt;obtain⟨W0,u,f,q0,s0⟩:=Zbp w 32 #[.bool na,.slice A n c,.bool nb,.slice B m d];have hA:=Zb (ha.below f);clear ha hb;obtain⟨a0,a1,a2,a3,-⟩:=q0.four;go_in;go_wp2_with fail;refine(Zkb hA.out hbad).mono ?_;rintro e w1 ⟨rfl,h⟩;have o:Below w.heap.size w w1:=Gs f h;clear u a0 a1 a2 a3;obtain⟨a0,a1,a2,a3,-⟩:=(Zc h q0).four;go_wp2_with fail;go_ret;exact⟨rfl,o⟩
theorem ES{G:Prop}(h:G:=by
 rintro e w2 ⟨rfl,aa⟩;have eZ:Below w.heap.size w w2:=Gs ab aa;replace q0:=Zc aa q0;clear a0 a1 a2 a3 aa;obtain⟨a0,a1,a2,a3,-⟩:=q0.four;go_wp2_with fail;go_ret;exact⟨rfl,eZ⟩):G:=h
theorem Zn0(na nb:Bool)(A B:Option Addr)(n c m d:Nat)(la lb:List Nat)(w:World)(ha:Lim w A n c la)(hb:Lim w B m d lb)(hk:okW na la=true)(hbad:okW nb lb=false) :
    Calls Tryz.prog 49 #[.agg #[.bool na,.slice A n c,.bool nb,.slice B m d]] w λe w'=>e=.returned (.int .i64 8)/\Below w.heap.size w w':=by
 have hmx:=Gt;obtain⟨W0,o,h,q0,s0⟩:=Zbp w 32 #[.bool na,.slice A n c,.bool nb,.slice B m d];have hA:=Zb (ha.below h);have hD:=Zb (hb.below h);clear ha hb;obtain⟨a0,a1,a2,a3,-⟩:=q0.four;go_in;go_wp2_with fail;refine(Zb1 hA.out hk).mono ?_;rintro e w1 ⟨rfl,f⟩;have ab:Below w.heap.size w w1:=Gs h f;replace q0:=Zc f q0;replace hA:=Zb (hA.out.below f);replace hD:=Zb (hD.out.below f);clear o a0 a1 a2 a3 f;obtain⟨a0,a1,a2,a3,-⟩:=q0.four;go_wp2_with fail;refine(Zkb hD.out hbad).mono ?_;exact ES
theorem Znt(na:Bool)(A B:Option Addr)(n c m d:Nat)(la lb:List Nat)(w:World)(ha:Lim w A n c la)(hb:Lim w B m d lb)(hk:okW na la=true)(hk2:okW true lb=true) :
    Calls Tryz.prog 49 #[.agg #[.bool na,.slice A n c,.bool true,.slice B m d]] w λe w'=>e=.returned (.int .i64 8)/\Below w.heap.size w w':=by
 have hmx:=Gt;obtain⟨W0,o,h,q0,s0⟩:=Zbp w 32 #[.bool na,.slice A n c,.bool true,.slice B m d];have hA:=Zb (ha.below h);have hD:=Zb (hb.below h);clear ha hb;obtain⟨a0,a1,a2,a3,-⟩:=q0.four;go_in;go_wp2_with fail;refine(Zb1 hA.out hk).mono ?_;rintro e w1 ⟨rfl,f⟩;have ab:Below w.heap.size w w1:=Gs h f;replace q0:=Zc f q0;replace hA:=Zb (hA.out.below f);replace hD:=Zb (hD.out.below f);clear o a0 a1 a2 a3 f;obtain⟨a0,a1,a2,a3,-⟩:=q0.four;go_wp2_with fail;refine(Zb1 hD.out hk2).mono ?_;exact ES
theorem Zon(na:Bool)(A B:Option Addr)(n c d:Nat)(la:List Nat)(w:World)(ha:Lim w A n c la)(hb:Lim w B 0 d [])(hk:okW na la=true) :
    Calls Tryz.prog 49 #[.agg #[.bool na,.slice A n c,.bool false,.slice B 0 d]] w λe w'=>e=.returned (.int .i64 8)/\Below w.heap.size w w':=by
 have hmx:=Gt;obtain⟨W0,o,h,q0,s0⟩:=Zbp w 32 #[.bool na,.slice A n c,.bool false,.slice B 0 d];have hA:=Zb (ha.below h);have hD:=Zb (hb.below h);clear ha hb;obtain⟨a0,a1,a2,a3,-⟩:=q0.four;go_in;go_wp2_with fail;refine(Zb1 hA.out hk).mono ?_;rintro e w1 ⟨rfl,f⟩;have ab:Below w.heap.size w w1:=Gs h f;replace q0:=Zc f q0;replace hA:=Zb (hA.out.below f);replace hD:=Zb (hD.out.below f);clear o a0 a1 a2 a3 f;obtain⟨a0,a1,a2,a3,-⟩:=q0.four;go_wp2_with fail;refine(Zb1 hD.out Gi).mono ?_;exact ES
theorem Zos(na:Bool)(A B:Option Addr)(n c m d:Nat)(za zb:Int)(w:World)(h1:Wd w na A n c za)(h2:Wd w false B m d zb)(hp:0<zb)(hg:Nat.gcd za.natAbs zb.natAbs≠1) :
    Calls Tryz.prog 49 #[.agg #[.bool na,.slice A n c,.bool false,.slice B m d]] w λe w'=>e=.returned (.int .i64 8)/\Below w.heap.size w w':=by
 have hmx:=Gt;have a6:0<m:=by rw[<- h2.lim.len];exact length_digits_pos.2 Gk
 have a5:((m:Int) == 0)=false:=by simp;omega
 have hm:=h2.2.1;have O:=Zfd h1.small h2.small;obtain⟨G,J⟩:=Gz (Nat.gcd za.natAbs zb.natAbs);rw[J]at hg O;replace hg:=Zb hg;obtain⟨W0,Y,h,q0,s0⟩:=Zbp w 32 #[.bool na,.slice A n c,.bool false,.slice B m d];have hA:=Zb (QR (h1.below h) (h2.below h));clear h1 h2;obtain⟨a0,a1,a2,a3,-⟩:=q0.four;replace q0:=Zb q0;go_in;go_wp2_with fail;refine(Zb1 hA.out.1.lim hA.out.1.ok).mono ?_;rintro e w1 ⟨rfl,u⟩;have C:Below w.heap.size w w1:=Gs h u;replace hA:=Zb (QR (hA.out.1.below u) (hA.out.2.below u));replace q0:=Gm u q0;clear a0 a1 a2 a3 u h Y;obtain⟨a0,a1,a2,a3,-⟩:=q0.out.four;go_wp2_with fail;refine(Zb1 hA.out.2.lim hA.out.2.ok).mono ?_;rintro e w2 ⟨rfl,o⟩;have E:Below w.heap.size w w2:=Gs C o;replace hA:=Zb (QR (hA.out.1.below o) (hA.out.2.below o));replace q0:=Gm o q0;clear a0 a1 a2 a3 o C;obtain⟨a0,a1,a2,a3,-⟩:=q0.out.four;go_wp2_with fail;refine(Zoc na false A B n c m d za zb w2 hA.out.1 hA.out.2).mono ?_;rw[J];rintro e w3 ⟨U,ng,Ag,kg,cg,code,rfl,hR⟩;have hG:=Zb (hR.small (by rw[Qn];exact O));have I:Below w.heap.size w w3:=Gs E U;clear a0 a1 a2 a3 U E q0 hA hR;obtain⟨W4,a7,a4,q4,kW,kB,s4⟩:=Zap 30 #[.bool ng,.slice Ag kg cg] I I.size;replace hG:=Zb (kW _ _ _ _ _ hG.out);clear kW kB;obtain⟨g0,g1,-⟩:=q4.two;replace q4:=Zb q4;go_wp2_with fail;refine Zad [] (λW'=>W'.cell? ⟨w3.heap.size,0,none⟩=some (.bool ng)/\W'.cell? ⟨w3.heap.size,1,none⟩=some (.slice Ag kg cg)) hmx ⟨g0,g1⟩ (λ_=>?_);refine Zin 1 [0] rfl Gj ⟨g0,g1⟩ ?_
 (refine tkA ?_;try simp only[Qf,Zf6,Zfl,Zfx,Gr,Gq,Gp])
 refine tk0 ?_;refine wpAnyL_o 1 λK hK=>?_;go_simp;refine(Ze7 1 W4.drew Gk Gk).mono ?_;rintro e w5 ⟨f,n1,A1,k1,c1,rfl,hO⟩;replace f:=Zq f;have au:Below w.heap.size w w5:=a4.trans (f.mono (by show w.heap.size<=W4.heap.size;have:=I.size;omega));replace hG:=Zb (hG.out.below f);replace q4:=Gm f q4;clear g0 g1;obtain⟨g0,g1,-⟩:=q4.out.two;refine hK.out _ _ (λ_=>⟨g0,g1⟩) ?_;clear hK K
 try simp only[Qf,Zf6,Zfl,Zfx]
 refine wpAnyL_o 2 λK hK=>?_;go_simp;refine(Zel ng n1 Ag A1 kg cg k1 c1 _ _ w5 hG.out.lim hO.lim).mono ?_;have im:Zfg ng n1 (digits (Int.natAbs ((G:Nat):Int))) (digits (Int.natAbs 1))=false:=by have h1:=hG.out.1;have h2:=hO.1;rw[h1,h2];unfold Zfg;have:=hg.out;simp[Zed,Zfq];omega
 exact EV
theorem Zps(na nb:Bool)(A B:Option Addr)(n c m d:Nat)(la lb:List Nat)(w:World)(ha:Lim w A n c la)(hb:Lim w B m d lb)(x:Bool)(hx:okF na la nb lb=x) :
    Calls Tryz.prog 49 #[.agg #[.bool na,.slice A n c,.bool nb,.slice B m d]] w λe w'=>e=.returned (.int .i64 (Zf8 x))/\Below w.heap.size w w':=by
 cases x
 ·simp only[okF,Bool.and_eq_false_iff,Bool.not_eq_false',decide_eq_false_iff_not]at hx
  by_cases h1:okW na la=true
  case neg=>exact Zor na nb A B n c m d la lb w ha hb (by simpa using h1)
  by_cases h2:okW nb lb=true
  case neg=>exact Zn0 na nb A B n c m d la lb w ha hb h1 (by simpa using h2)
  have hA:=Wd.of_ok ha h1;have hD:=Wd.of_ok hb h2;cases nb
  ·by_cases hz:0<lb.length
   ·have e3:sg false (val lb)=(val lb:Nat):=rfl
    rw[e3]at hD;have f:=(Zj1 hb.lt).1 h2;have e2:(sg false (val lb)).natAbs=val lb:=Z0 _ _;rw[e2]at f
    have hp:0<val lb:=by
     rw[f.2.2]at hz;exact length_digits_pos.1 hz
    refine Zos na A B n c m d _ _ w hA hD Gk ?_;rw[Z0,Qn];rcases hx with (((hx|hx)|hx)|hx)|hx;rw[h1]at hx;cases hx;rw[h2]at hx;cases hx;cases hx;omega;exact hx
   have h:lb=[]:=Qj Gk;subst h;have hm:m=0:=hb.len.symm;subst hm;exact Zon na A B n c d la w ha hb h1
  exact Znt na A B n c m d la lb w ha hb h1 h2
 exact Zl4 na nb A B n c m d _ w (Zrp ha hb hx)
theorem Zsa(na nb:Bool)(A B:Option Addr)(n c m d:Nat)(w:World)(hn:n<=maxLen)(hm:m<=maxLen) :
    Calls Tryz.prog 48 #[.agg #[.bool na,.slice A n c,.bool nb,.slice B m d]] w λe w'=>e=.returned (.int .i64 (max n m:Nat))/\Below w.heap.size w w':=by
 unfold maxLen at hn hm;obtain⟨W0,h,f,q0,s0⟩:=Zbp w 32 #[.bool na,.slice A n c,.bool nb,.slice B m d];obtain⟨a0,a1,a2,a3,-⟩:=q0.four;have hx:max (n:Int) (m:Int)=((max n m:Nat):Int):=Gk
 go_in;go_wp2_with fail;go_ret;exact⟨rfl,(by first|exact f|exact Zg f _)⟩
def Zou(na:Bool)(la:List Nat)(nb:Bool)(lb:List Nat)(n m:Nat):Bool:=okF na la nb lb && decide (n<=64) && decide (m<=64)
def FX.small(e:FX):Bool:=Zou e.na e.la e.nb e.lb e.n e.m
theorem Fd{G:Prop}(h:G:=by
 clear hs;go_wp2_with fail;go_ret;exact⟨by first|rfl|simp[t1]|simp[t1,t2],ab.out⟩):G:=h
theorem Zf3(na nb:Bool)(A B:Option Addr)(n c m d:Nat)(la lb:List Nat)(w:World)(ha:Lim w A n c la)(hb:Lim w B m d lb)(b:Bool)(hs:Zou na la nb lb n m=b) :
    Calls Tryz.prog 19 #[.agg #[.bool na,.slice A n c,.bool nb,.slice B m d]] w λe w'=>e=.returned (.bool b)/\Below w.heap.size w w':=by
 obtain⟨W0,C,f,q0,s0⟩:=Zbp w 32 #[.bool na,.slice A n c,.bool nb,.slice B m d];have hA:=Zb (ha.below f);have E:=Zb (hb.below f);obtain⟨x0,x1,x2,x3,-⟩:=q0.four;replace q0:=Zb q0;clear ha hb;go_in;go_wp2_with fail;(try rw[C]);clear C x0 x1 x2 x3;obtain⟨x,hx⟩:=Gz (okF na la nb lb);refine(Zps na nb A B n c m d la lb W0 hA.out E.out x hx).mono ?_;unfold Zou at hs;rw[hx]at hs;clear hx;rintro e w1 ⟨rfl,u⟩;have ab:=Zb (Gs f u);have q1:=Zc u q0.out;obtain⟨x0,x1,x2,x3,-⟩:=q1.four;clear q0 u f q1 hA E s0;cases x with
 | false =>
  rw[show Zf8 false=8 from rfl];obtain rfl:b=false:=by rw[<- hs];rfl
  clear hs;go_wp2_with fail;go_ret;exact⟨rfl,ab.out⟩
 | true =>
  rw[show Zf8 true=0 from rfl];by_cases h1:n<=64
  ·have t1:decide ((n:Int)<=64)=true:=Gv Gk
   have h:decide (n<=64)=true:=Gv h1;rw[h]at hs;by_cases h2:m<=64
   ·have t2:decide ((m:Int)<=64)=true:=Gv Gk
    have o:decide (m<=64)=true:=Gv h2;obtain rfl:b=true:=by rw[<- hs,o];rfl
    replace h1:=Zb h1;replace h2:=Zb h2;exact Fd
   have t2:decide ((m:Int)<=64)=false:=Gu Gk;have o:decide (m<=64)=false:=Gu h2;obtain rfl:b=false:=by rw[<- hs,o];rfl
   replace h1:=Zb h1;replace h2:=Zb h2;exact Fd
  have t1:decide ((n:Int)<=64)=false:=Gu Gk;have h:decide (n<=64)=false:=Gu h1;obtain rfl:b=false:=by rw[<- hs,h];rfl
  replace h1:=Zb h1;exact Fd
def longN(k:Nat):Bool:=(decide (8<k) && decide (k<=64)) || decide (70<k)
theorem Im{G:Prop}(h:G:=by
 clear hb;go_in;go_wp2_with fail;go_ret;exact⟨by first|rfl|simp,hB.out⟩):G:=h
theorem Zpl(k:Nat)(w:World)(hk:k<=maxLen)(b:Bool)(hb:longN k=b) :
    Calls Tryz.prog 47 #[.int .i64 (k:Nat)] w λe w'=>e=.returned (.bool b)/\Below w.heap.size w w':=by
 unfold maxLen at hk;have hB:=Zb (Qd w.heap.size w);unfold longN at hb;by_cases h1:8<k
 ·have t1:decide ((8:Int)<(k:Int))=true:=Gv Gk
  have f:decide (8<k)=true:=Gv h1;rw[f]at hb;by_cases h2:k<=64
  ·have t2:decide ((k:Int)<=64)=true:=Gv Gk
   have h:decide (k<=64)=true:=Gv h2;obtain rfl:b=true:=by rw[<- hb,h];rfl
   clear hb;go_in;go_wp2_with fail;go_ret;exact⟨rfl,hB.out⟩
  have t2:decide ((k:Int)<=64)=false:=Gu Gk;have h:decide (k<=64)=false:=Gu h2;obtain⟨v,hv⟩:=Gz (decide (70<k));have t3:decide ((70:Int)<(k:Int))=v:=by rw[<- hv];exact decide_eq_decide.2 Gk
  obtain rfl:b=v:=by rw[<- hb,h,hv];rfl
  exact Im
 have t1:decide ((8:Int)<(k:Int))=false:=Gu Gk;have f:decide (8<k)=false:=Gu h1;obtain⟨v,hv⟩:=Gz (decide (70<k));have t3:decide ((70:Int)<(k:Int))=v:=by rw[<- hv];exact decide_eq_decide.2 Gk
 obtain rfl:b=v:=by rw[<- hb,f,hv];rfl
 exact Im
def FX.long(e:FX):Bool:=longN (max e.n e.m)
def Zn8(n m:Nat)(es fs:List FX):Bool:=decide (12<n) || decide (12<m) || es.any FX.long || fs.any FX.long
theorem FV{G:Prop}(h:G:=by
 go_wp2_with fail;go_ret;exact⟨rfl,Gs ar.out aO.out⟩):G:=h
theorem Fs{G:Prop}(h:G:=by
 go_wp2_with fail;(try rw[bH]);go_ret;exact⟨rfl,ar.out⟩):G:=h
theorem Zlr(T:Int)(X E:Option Addr)(n c m d:Nat)(es fs:List FX)(w:World)(hX:FXL w X n c es)(hE:FXL w E m d fs)(b:Bool)(hb:Zn8 n m es fs=b) :
    Calls Tryz.prog 18 #[.agg #[.int .i64 T,.slice X n c,.slice E m d]] w λe w'=>e=.returned (.bool b)/\Below w.heap.size w w':=by
 obtain⟨W0,bH,ar,q0,s0⟩:=Zbp w 27 #[.int .i64 T,.slice X n c,.slice E m d];have a2:=hX.1;have a3:=hE.1;have b2:=hX.2.1;have b0:=hX.2.2.1;have b1:=hE.2.1;have a9:=hE.2.2.1;unfold maxLen at b0 a9;have a6:=Zb (hX.below ar);have a8:=Zb (hE.below ar);obtain⟨x0,x1,x2⟩:W0.cell? ⟨w.heap.size,0,none⟩=some (.int .i64 T)/\W0.cell? ⟨w.heap.size,1,none⟩=some (.slice X n c)/\W0.cell? ⟨w.heap.size,2,none⟩=some (.slice E m d):=⟨q0.cell 0,q0.cell 1,q0.cell 2⟩;replace q0:=Zb q0;replace ar:=Zb ar;replace a2:=Zb a2;replace a3:=Zb a3;clear hX hE s0;unfold Zn8 at hb;go_in;by_cases h1:12<n
 ·have t1:decide ((12:Int)<(n:Int))=true:=Gv Gk
  obtain rfl:b=true:=by rw[<- hb,Gv h1];rfl
  replace h1:=Zb h1;clear hb;exact Fs
 have t1:decide ((12:Int)<(n:Int))=false:=Gu Gk;rw[Gu h1,QF]at hb;by_cases h2:12<m
 ·have t2:decide ((12:Int)<(m:Int))=true:=Gv Gk
  obtain rfl:b=true:=by rw[<- hb,Gv h2];rfl
  replace h1:=Zb h1;replace h2:=Zb h2;clear hb;exact Fs
 have t2:decide ((12:Int)<(m:Int))=false:=Gu Gk;rw[Gu h2,QF]at hb;replace h1:=Zb h1;replace h2:=Zb h2;replace hb:=Zb hb;go_wp2_with fail;(try rw[bH]);clear bH x0 x1 x2
 go_loopg [3] n (λk iv wr=>∃ i:Nat,i+k=n/\iv=.int .i64 i/\Hid (∀ j e,j<i->es[j]?=some e->e.long=false)/\Blk wr w.heap.size 27 #[.int .i64 T,.slice X n c,.slice E m d]/\Below W0.heap.size W0 wr)
 case atStart=>exact⟨0,by omega,rfl,Zb (λj e hj=>absurd hj (QD _)),q0.out,Qd _ _⟩
 case round =>
  clear q0;obtain⟨i,a7,rfl,I,q1,J⟩:=hrel;obtain⟨wA,rfl⟩:=Gy wr;obtain⟨x0,x1,x2⟩:wA.cell? ⟨w.heap.size,0,none⟩=some (.int .i64 T)/\wA.cell? ⟨w.heap.size,1,none⟩=some (.slice X n c)/\wA.cell? ⟨w.heap.size,2,none⟩=some (.slice E m d):=⟨q1.cell 0,q1.cell 1,q1.cell 2⟩;replace q1:=Zb q1;cases gk with
  | succ gk' =>
   obtain rfl:gk'=n-(i+1):=Gk;have a5:i<n:=Gk;have tlt:decide ((i:Int)<(n:Int))=true:=Gv Gk;have bI:(i:Int)<(n:Int):=Gk;obtain⟨g,o,e,a4,he,hc,h,f⟩:=(a6.out.below J).at_ a5;subst a4;obtain⟨c0,c1,c2,c3⟩:=hc;replace he:=Zb he;replace h:=Zb h;replace f:=Zb f;have a0:=Zb J;clear J;go_wp2_with fail;refine(Zsa e.na e.nb e.A e.B e.n e.c e.m e.d _ (Ql h.out.2.1 h.out.2.2.1) (Ql f.out.2.1 f.out.2.2.1)).mono ?_;rintro e1 w2 ⟨rfl,O⟩;have q2:=Gm O q1;have Y:=Gn a0 O;clear O c0 c1 c2 c3 x0 x1 x2;go_wp2_with fail;obtain⟨u,hu⟩:=Gz e.long;refine(Zpl (max e.n e.m) w2 (Nat.max_le.2 ⟨Ql h.out.2.1 h.out.2.2.1,Ql f.out.2.1 f.out.2.2.1⟩) u hu).mono ?_;rintro e1 w3 ⟨rfl,U⟩;have q3:=Gm U q2;have aO:=Gn Y U;clear U;replace hu:=Zb hu;cases u with
   | true =>
    obtain rfl:b=true:=by
     rw[<- hb.out,(List.any_eq_true.2 ⟨e,Qc he.out,hu.out⟩:es.any FX.long=true)];rfl
    exact FV
   | false =>
    go_wp2_with fail
    go_roundg (n-(i+1))
    case measure=>omega
    case rel=>exact⟨i+1,by omega,by go_num,Zb (λj e' hj C=>by
        rcases Qt j i with h'|h';exact I.out j e' h' C;obtain rfl:j=i:=Gk;rw[he.out]at C;cases C;exact hu.out),q3.out,aO.out⟩
  | zero =>
   obtain rfl:n=i:=Gk;have tge:decide ((n:Int)<(n:Int))=false:=Gh
   have a1:es.any FX.long=false:=by
    rw[Qv];intro e he;obtain⟨j,hj,C⟩:=Qk he;rw[I.out j e (by rw[a2.out]at hj;exact hj) (by rw[Qa hj,C])];decide
   clear I;go_wp2_with fail;rw[a1,QF]at hb;clear a1 tge a7 x0 x1 x2 a6 a2
   go_loopg [4] m (λk iv wr=>∃ i:Nat,i+k=m/\iv=.int .i64 i/\Hid (∀ j e,j<i->fs[j]?=some e->e.long=false)/\Blk wr w.heap.size 27 #[.int .i64 T,.slice X n c,.slice E m d]/\Below W0.heap.size W0 wr)
   case atStart=>exact⟨0,by omega,rfl,Zb (λj e hj=>absurd hj (QD _)),q1.out,J⟩
   case round =>
    clear q1 J;obtain⟨i,a7,rfl,I,q1,J⟩:=hrel;obtain⟨wA,rfl⟩:=Gy wr;obtain⟨x0,x1,x2⟩:wA.cell? ⟨w.heap.size,0,none⟩=some (.int .i64 T)/\wA.cell? ⟨w.heap.size,1,none⟩=some (.slice X n c)/\wA.cell? ⟨w.heap.size,2,none⟩=some (.slice E m d):=⟨q1.cell 0,q1.cell 1,q1.cell 2⟩;replace q1:=Zb q1;cases gk with
    | succ gk' =>
     obtain rfl:gk'=m-(i+1):=Gk;have a5:i<m:=Gk;have tlt:decide ((i:Int)<(m:Int))=true:=Gv Gk;have bI:(i:Int)<(m:Int):=Gk;obtain⟨g,o,e,a4,he,hc,h,f⟩:=(a8.out.below J).at_ a5;subst a4;obtain⟨c0,c1,c2,c3⟩:=hc;replace he:=Zb he;replace h:=Zb h;replace f:=Zb f;have a0:=Zb J;clear J;go_wp2_with fail;refine(Zsa e.na e.nb e.A e.B e.n e.c e.m e.d _ (Ql h.out.2.1 h.out.2.2.1) (Ql f.out.2.1 f.out.2.2.1)).mono ?_;rintro e1 w2 ⟨rfl,O⟩;have q2:=Gm O q1;have Y:=Gn a0 O;clear O c0 c1 c2 c3 x0 x1 x2;go_wp2_with fail;obtain⟨u,hu⟩:=Gz e.long;refine(Zpl (max e.n e.m) w2 (Nat.max_le.2 ⟨Ql h.out.2.1 h.out.2.2.1,Ql f.out.2.1 f.out.2.2.1⟩) u hu).mono ?_;rintro e1 w3 ⟨rfl,U⟩;have q3:=Gm U q2;have aO:=Gn Y U;clear U;replace hu:=Zb hu;cases u with
     | true =>
      obtain rfl:b=true:=by
       rw[<- hb.out,(List.any_eq_true.2 ⟨e,Qc he.out,hu.out⟩:fs.any FX.long=true)]
      exact FV
     | false =>
      go_wp2_with fail
      go_roundg (m-(i+1))
      case measure=>omega
      case rel=>exact⟨i+1,by omega,by go_num,Zb (λj e' hj C=>by
          rcases Qt j i with h'|h';exact I.out j e' h' C;obtain rfl:j=i:=Gk;rw[he.out]at C;cases C;exact hu.out),q3.out,aO.out⟩
    | zero =>
     obtain rfl:m=i:=Gk;have tge:decide ((m:Int)<(m:Int))=false:=Gh
     have a1:fs.any FX.long=false:=by
      rw[Qv];intro e he;obtain⟨j,hj,C⟩:=Qk he;rw[I.out j e (by rw[a3.out]at hj;exact hj) (by rw[Qa hj,C])];decide
     clear I;go_wp2_with fail;go_ret;obtain rfl:b=false:=by rw[<- hb.out,a1]
     exact⟨rfl,Gs ar.out J⟩
def Zkv(T:Int)(n m:Nat)(es fs:List FX):Bool:=(decide (T=3) || decide (T=10)) && decide ((n:Int)=T) && decide ((m:Int)=T) && (es.all FX.small && fs.all FX.small)
theorem Zuw{T:Int}{n m:Nat}{es fs:List FX}(h:Zkv T n m es fs=true):(T=3 \/ T=10)/\(n:Int)=T/\(m:Int)=T/\es.all FX.small=true/\fs.all FX.small=true:=by
 unfold Zkv at h;simp only[Qr,QE,decide_eq_true_eq]at h;exact⟨h.1.1.1,h.1.1.2,h.1.2,h.2.1,h.2.2⟩
theorem IN{G:Prop}(h:G:=by
 rcases hT with h|h
 ·left;rw[<- eS,h];rfl
 right;rw[<- eS,<- dF,h];exact⟨rfl,rfl⟩):G:=h
theorem Zpd(T:Int)(X E:Option Addr)(n c m d:Nat)(es fs:List FX)(w:World)(hX:FXL w X n c es)(hE:FXL w E m d fs)(b:Bool)(hb:Zkv T n m es fs=b) :
    Calls Tryz.prog 17 #[.agg #[.int .i64 T,.slice X n c,.slice E m d]] w λe w'=>e=.returned (.int .i64 (Zf8 b))/\Below w.heap.size w w':=by
 obtain⟨W0,bH,ar,q0,s0⟩:=Zbp w 27 #[.int .i64 T,.slice X n c,.slice E m d];have a4:=hX.1;have a6:=hE.1;have d6:=hX.2.1;have c4:=hX.2.2.1;have d4:=hE.2.1;have c6:=hE.2.2.1;unfold maxLen at c4 c6;have c9:=Zb (hX.below ar);have c5:=Zb (hE.below ar);obtain⟨x0,x1,x2⟩:W0.cell? ⟨w.heap.size,0,none⟩=some (.int .i64 T)/\W0.cell? ⟨w.heap.size,1,none⟩=some (.slice X n c)/\W0.cell? ⟨w.heap.size,2,none⟩=some (.slice E m d):=⟨q0.cell 0,q0.cell 1,q0.cell 2⟩;replace q0:=Zb q0;replace ar:=Zb ar;replace a4:=Zb a4;replace a6:=Zb a6;clear hX hE s0;unfold Zkv at hb;go_in;by_cases hT:T=3 \/ T=10
 case neg =>
  have a1:decide (T=3)=false:=Gu (λh=>hT (.inl h));have a2:decide (T=10)=false:=Gu (λh=>hT (.inr h));have b1:(T != 3)=true:=bne_iff_ne.2 (λh=>hT (.inl h));have b2:(T != 10)=true:=bne_iff_ne.2 (λh=>hT (.inr h));obtain rfl:b=false:=by rw[<- hb,a1,a2];rfl
  replace hT:=Zb hT;clear hb;exact Fs
 have bT:((T != 3) && (T != 10))=false:=by rcases hT with rfl|rfl <;> rfl
 have a0:(decide (T=3) || decide (T=10))=true:=by rcases hT with rfl|rfl <;> rfl
 rw[a0,QG]at hb;by_cases h1:(n:Int)=T
 case neg =>
  have a1:decide ((n:Int)=T)=false:=Gu h1;have b1:((n:Int) != T)=true:=bne_iff_ne.2 h1;obtain rfl:b=false:=by rw[<- hb,a1];rfl
  clear hb;rcases hT with rfl|rfl
  all_goals
   exact Fs
 subst h1;rw[Gv (rfl:(n:Int)=(n:Int)),QG]at hb;by_cases h2:(m:Int)=(n:Int)
 case neg =>
  have a1:decide ((m:Int)=(n:Int))=false:=Gu h2;have b1:((m:Int) != (n:Int))=true:=bne_iff_ne.2 h2;have b0:((n:Int) != (n:Int))=false:=Gh;obtain rfl:b=false:=by rw[<- hb,a1];rfl
  clear hb;replace h2:=Zb h2;obtain⟨v3,eS⟩:∃ v,((n:Int) != 3)=v:=⟨_,rfl⟩;obtain⟨b5,dF⟩:∃ v,((n:Int) != 10)=v:=⟨_,rfl⟩
  have b3:v3=false \/ (v3=true/\b5=false):=by
   exact IN
  replace hT:=Zb hT;clear bT a0;rcases b3 with rfl|⟨rfl,rfl⟩
  all_goals
   exact Fs
 have c7:m=n:=Gk;subst c7;rw[Gv (rfl:(m:Int)=(m:Int)),QG]at hb;have b0:((m:Int) != (m:Int))=false:=Gh;replace hb:=Zb hb;clear h2;have d3:m<=10:=Gk;obtain⟨v3,eS⟩:∃ v,((m:Int) != 3)=v:=⟨_,rfl⟩;obtain⟨b5,dF⟩:∃ v,((m:Int) != 10)=v:=⟨_,rfl⟩
 have b3:v3=false \/ (v3=true/\b5=false):=by
  exact IN
 replace hT:=Zb hT;clear bT a0;rcases b3 with rfl|⟨rfl,rfl⟩
 all_goals
  go_wp2_with fail;(try rw[bH]);clear bH x0 x1 x2 eS dF
  go_loopg [3] m (λk iv wr=>∃ i:Nat,i+k=m/\iv=.int .i64 i/\Hid (∀ j e f,j<i->es[j]?=some e->fs[j]?=some f->e.small=true/\f.small=true)/\Blk wr w.heap.size 27 #[.int .i64 m,.slice X m c,.slice E m d]/\Below W0.heap.size W0 wr)
  case atStart=>exact⟨0,by omega,rfl,Zb (λj e f hj=>absurd hj (QD _)),q0.out,Qd _ _⟩
  case round =>
   clear q0;obtain⟨i,d5,rfl,a5,q1,Y⟩:=hrel;obtain⟨wA,rfl⟩:=Gy wr;obtain⟨x0,x1,x2⟩:wA.cell? ⟨w.heap.size,0,none⟩=some (.int .i64 m)/\wA.cell? ⟨w.heap.size,1,none⟩=some (.slice X m c)/\wA.cell? ⟨w.heap.size,2,none⟩=some (.slice E m d):=⟨q1.cell 0,q1.cell 1,q1.cell 2⟩;replace q1:=Zb q1;cases gk with
   | zero =>
    obtain rfl:m=i:=Gk;have tge:decide ((m:Int)<(m:Int))=false:=Gh;have hB:=Zb Y;clear Y;go_wp2_with fail;go_ret
    have c8:es.all FX.small=true:=by
     rw[Qh];intro e he;obtain⟨j,hj,O⟩:=Qk he;have J:j<fs.length:=by rw[a6.out,<- a4.out];exact hj
     exact(a5.out j e fs[j] (by rw[a4.out]at hj;exact hj) (by rw[Qa hj,O]) (Qa J)).1
    have b8:fs.all FX.small=true:=by
     rw[Qh];intro e he;obtain⟨j,hj,O⟩:=Qk he;have J:j<es.length:=by rw[a4.out,<- a6.out];exact hj
     exact(a5.out j es[j] e (by rw[a6.out]at hj;exact hj) (Qa J) (by rw[Qa hj,O])).2
    rw[c8,b8]at hb;obtain rfl:b=true:=hb.out.symm;exact⟨rfl,Gs ar.out hB.out⟩
   | succ gk' =>
    obtain rfl:gk'=m-(i+1):=Gk;have b7:i<m:=Gk;have tlt:decide ((i:Int)<(m:Int))=true:=Gv Gk;have bI:(i:Int)<(m:Int):=Gk;obtain⟨g,o,e,b9,he,hc,a8,a7⟩:=(c9.out.below Y).at_ b7;subst b9;obtain⟨c0,c1,c2,c3⟩:=hc;obtain⟨g',o',f,d0,hf,U,I,C⟩:=(c5.out.below Y).at_ b7;subst d0;replace he:=Zb he;replace hf:=Zb hf;replace U:=Zb U;replace a8:=Zb a8;replace a7:=Zb a7;replace I:=Zb I;replace C:=Zb C;have b6:=Zb Y;clear Y;obtain⟨u,hu⟩:=Gz e.small;obtain⟨v,hv⟩:=Gz f.small;go_wp2_with fail;refine(Zf3 e.na e.nb e.A e.B e.n e.c e.m e.d e.la e.lb _ a8.out a7.out u hu).mono ?_;rintro e1 w2 ⟨rfl,a3⟩;have q2:=Gm a3 q1;have a9:=Gn b6 a3;replace U:=Zb (At4.below U.out a3);replace I:=Zb (I.out.below a3);replace C:=Zb (C.out.below a3);replace hu:=Zb hu;replace hv:=Zb hv;clear a3 c0 c1 c2 c3 x0 x1 x2 a8 a7;cases u with
    | false =>
     obtain rfl:b=false:=by
      have:es.all FX.small=false:=List.all_eq_false.2 ⟨e,Qc he.out,by rw[hu.out];decide⟩;rw[<- hb.out,this];rfl
     go_wp2_with fail;go_ret;exact⟨rfl,Gs ar.out a9.out⟩
    | true =>
     obtain⟨c0,c1,c2,c3⟩:=U.out;obtain⟨x0,x1,x2⟩:w2.cell? ⟨w.heap.size,0,none⟩=some (.int .i64 m)/\w2.cell? ⟨w.heap.size,1,none⟩=some (.slice (some ⟨g,o,none⟩) m c)/\w2.cell? ⟨w.heap.size,2,none⟩=some (.slice (some ⟨g',o',none⟩) m d):=⟨q2.out.cell 0,q2.out.cell 1,q2.out.cell 2⟩;clear U;go_wp2_with fail;refine(Zf3 f.na f.nb f.A f.B f.n f.c f.m f.d f.la f.lb _ I.out C.out v hv.out).mono ?_;rintro e1 w3 ⟨rfl,b4⟩;have q3:=Gm b4 q2;have aO:=Gn a9 b4;clear b4 c0 c1 c2 c3 x0 x1 x2 I C;cases v with
     | false =>
      obtain rfl:b=false:=by
       have:fs.all FX.small=false:=List.all_eq_false.2 ⟨f,Qc hf.out,by rw[hv.out];decide⟩;rw[<- hb.out,this,Bool.and_false]
      exact FV
     | true =>
      go_wp2_with fail
      go_roundg (m-(i+1))
      case measure=>omega
      case rel=>exact⟨i+1,by omega,by go_num,Zb (λj e' f' hj O J=>by
          rcases Qt j i with h'|h';exact a5.out j e' f' h' O J;obtain rfl:j=i:=Gk;rw[he.out]at O;rw[hf.out]at J;cases O;cases J;exact⟨hu.out,hv.out⟩),q3.out,aO.out⟩
abbrev intv(z:Int):Value:=.int .i64 z
theorem LimI.len{w:World}{A:Option Addr}{n c:Nat}{l:List Int}(h:LimI w A n c l):l.length=n:=h.1
theorem LimI.reads{w:World}{A:Option Addr}{n c:Nat}{l:List Int}(h:LimI w A n c l):Reads w w.heap.size 1 A n (l.map intv):=
 ⟨by simp[h.len],λhn=>by
  obtain⟨b,o,e,hc⟩:=h.2.2.2.2 hn;refine⟨_,e,Zn (hc 0 hn),λj u hu=>?_⟩;rw[Zf]
  have hj:j<n:=by
   exact It
  rw[hc j hj];rw[Qi,Qa (by rw[h.len];exact hj)]at hu;rw[Qa (by rw[h.len];exact hj)];simpa using hu⟩
theorem LimI.nil(w:World)(A:Option Addr)(c:Nat)(hc:c<=maxLen):LimI w A 0 c []:=⟨rfl,Qy _,hc,by simp,λh=>absurd h Gk⟩
def OwnI(t:TypeId)(w:World)(base:Nat)(v:Value)(l:List Int):Prop:=w.ownsRow base t 1 v l.length (l.map intv)/\∀ x ∈ l,I64 x
theorem OwnI.lim{t:TypeId}{w:World}{base:Nat}{v:Value}{l:List Int}(h:OwnI t w base v l):∃ A c,v=.slice A l.length c/\LimI w A l.length c l:=by
 obtain⟨h1,h2⟩:=h;rcases h1.2 with ⟨hv,h0⟩|⟨g,cap,cur,hv,_,hh,e,f,o,ht⟩
 ·have:l=[]:=Qj h0
  subst this;exact⟨none,0,hv,LimI.nil _ _ _ (Qy _)⟩
 refine⟨_,cap,hv,rfl,e,f,h2,λ_=>⟨g,0,rfl,λk hk=>?_⟩⟩;rw[Qw,cell_of_row w g k cur t (0,0) hh];have h3:(cur.toList.take (l.length*1))[k]?=(l.map intv)[k]?:=by rw[ht]
 exact Fx
theorem Zef(l:List Int):∀ u ∈ l.map intv,u.oneCell'=true:=λu hu=>by
 obtain⟨x,_,rfl⟩:=List.mem_map.1 hu;rfl
theorem OwnI.append{t:TypeId}{w':World}{base:Nat}{v':Value}{l m:List Int}{n k:Nat}(hn:n=l.length)(hk:k=m.length)(h:w'.ownsRow base t 1 v' (n+k) (l.map intv++m.map intv))(hl:∀ x ∈ l,I64 x)(hm:∀ x ∈ m,I64 x):OwnI t w' base v' (l++m):=by
 subst hn hk;refine⟨?_,λx hx=>(List.mem_append.1 hx).elim (hl x) (hm x)⟩;rw[Qb,QN];exact h
theorem Zu8:(Tryz.prog.info? 2).map (λi=>(i.zero,i.size,i.bytes))=some (some (.int .i64 0),1,8):=by kernel_rfl
def IdxB(w:World)(b:Bool)(e:Ending)(w':World):Prop:=∃ i:Int,e=.returned (.int .i64 i)/\decide (0<=i)=b/\Below w.heap.size w w'
structure RI where
 A:Option Addr
 n:Nat
 c:Nat
 l:List Int
def MIL(w:World)(A:Option Addr)(n c:Nat)(rs:List RI):Prop:=
 rs.length=n/\n<=c/\c<=maxLen/\(∀ r ∈ rs,LimI w r.A r.n r.c r.l)/\(0<n->∃ g o,A=some ⟨g,o,none⟩/\∀ (k:Nat) (r:RI),rs[k]?=some r->w.cell? ⟨g,o+k,none⟩=some (.slice r.A r.n r.c))
section
variable{w w':World}{A:Option Addr}{n c:Nat}{rs:List RI}
theorem MIL.below(h:MIL w A n c rs)(hb:Below w.heap.size w w'):MIL w' A n c rs:=by
 obtain⟨h1,h2,h3,h4,h5⟩:=h;refine⟨h1,h2,h3,λr hr=>(h4 r hr).below hb,λhn=>?_⟩;obtain⟨g,o,e,hc⟩:=h5 hn;exact⟨g,o,e,λk r hr=>(hb.cell (Zn (hc k r hr))).trans (hc k r hr)⟩
theorem MIL.at_(h:MIL w A n c rs){i:Nat}(hi:i<n):∃ g o r,A=some ⟨g,o,none⟩/\rs[i]?=some r/\w.cell? ⟨g,o+i,none⟩=some (.slice r.A r.n r.c)/\LimI w r.A r.n r.c r.l:=by
 obtain⟨h1,h2,h3,h4,h5⟩:=h;obtain⟨g,o,e,hc⟩:=h5 Gk;obtain⟨r,hr⟩:∃ r,rs[i]?=some r:=⟨_,Qa Gk⟩;exact⟨g,o,r,e,hr,hc i r hr,h4 r (Qc hr)⟩
theorem LimI.nlen{l:List Int}(h:LimI w A n c l):n<=maxLen:=Ql h.2.1 h.2.2.1
end
def Zks(least x:Int):Bool:=decide (x<least) || decide (1099511627776<x)
def Zfw(least:Int)(l:List Int):Bool:=l.any (Zks least)
theorem FQ{G:Prop}(h:G:=by
 go_in;go_wp2_with fail;go_ret;exact⟨by simp[Zks,t1],by first|exact Below.refl _ _|exact Zg (Below.refl _ _) _⟩):G:=h
theorem Zta(x least:Int)(g:Nat)(w:World)(hc:w.cell? ⟨g,0,none⟩=some (.int .i64 least))(b:Bool)(hb:Zks least x=b) :
    Calls Tryz.prog 145 #[.int .i64 x,.pointer (some ⟨g,0,none⟩)] w λe w'=>e=.returned (.bool b)/\Below w.heap.size w w':=by
 subst hb;by_cases h1:x<least
 ·have t1:decide (x<least)=true:=Gv h1
  exact FQ
 have t1:decide (x<least)=false:=Gu h1;exact FQ
theorem Fe{G:Prop}(h:G:=by
 rintro e' w1 ⟨rfl,ai⟩;go_wp2_with fail;go_ret;exact⟨i,rfl,by simp,(by first|exact Gs aW ai|exact(Zg aW _).trans (ai.mono aW.size))⟩):G:=h
theorem Fu{G:Prop}(h:G:=by
 rintro e' w1 ⟨rfl,ai⟩;go_wp2_with fail
 go_roundw
 case rel=>exact⟨i+1,by omega,by go_num,dp,(by first|exact Gs aW ai|exact(Zg aW _).trans (ai.mono aW.size))⟩
 case measure=>simp[intOf];omega):G:=h
theorem Zt4(A:Option Addr)(n c:Nat)(l:List Int)(least:Int)(p:Nat)(w:World)(h:LimI w A n c l)(hp:w.cell? ⟨p,0,none⟩=some (.int .i64 least))(b:Bool)(hb:Zfw least l=b) :
    Calls Tryz.prog 163 #[.slice A n c,.func (.func 145) #[] #[.pointer (some ⟨p,0,none⟩)]] w (IdxB w b):=by
 have hl:=h.1;have O:=h.2.1;have C:=h.2.2.1;unfold maxLen at C;have hg:=Zb h.2.2.2.2;clear h;replace hl:=Zb hl;replace hb:=Zb hb;replace hp:=Zb hp;go_in;go_wp2_with fail
 go_loopw [8] (λiv wr=>∃ i:Nat,i<=n/\iv=.int .i64 i/\Hid (∀ j,j<i->Zks least (l[j]?.getD 0)=false)/\Below w.heap.size w wr) (λiv _=>n-(intOf iv).toNat)
 case atStart=>exact⟨0,Qy _,rfl,Zb (λj hj=>by omega),Qd _ _⟩
 case round =>
  obtain⟨i,J,rfl,f,aW⟩:=hrel;by_cases hin:i<n
  case neg =>
   obtain rfl:n=i:=Gk;have E:decide ((n:Int)<(n:Int))=false:=Gh
   obtain rfl:b=false:=by
    rw[<- hb.out];unfold Zfw;rw[Qv];intro e he;obtain⟨j,hj,I⟩:=Qk he;have:=f.out j (by rw[hl.out]at hj;exact hj);rw[Qa hj,I]at this;simp only[QK]at this;rw[this];decide
   go_wp2_with fail;go_ret;exact⟨-1,rfl,rfl,aW⟩
  have E:decide ((i:Int)<(n:Int))=true:=Gv Gk;obtain⟨g,o,rfl,u⟩:=hg.out Gk;have c0:=(aW.cell (Zn (u i hin))).trans (u i hin);have hC:=Zb (λW1 (h1:Below wr.heap.size wr W1)=>Zta (l[i]?.getD 0) least p W1 ((h1.cell (Qe (Zn hp.out) aW.size)).trans ((aW.cell (Zn hp.out)).trans hp.out)));clear u;obtain⟨x,hx⟩:=Gz (Zks least (l[i]?.getD 0));cases x
  ·have dp:Hid (∀ j,j<i+1->Zks least (l[j]?.getD 0)=false):=Zb (λj hj=>by
     rcases Qt j i with h'|h';exact f.out j h';obtain rfl:j=i:=Gk;exact hx)
   replace hx:=Zb hx;generalize l[i]?.getD 0=z at *;go_wp2_with fail;refine(hC.out _ (by first|exact Qd _ _|exact Zg (Qd _ _) _) _ hx.out).mono ?_;exact Fu
  obtain rfl:b=true:=by
    rw[<- hb.out];unfold Zfw;rw[QC];refine⟨l[i]?.getD 0,?_,hx⟩;have:=hl.out;rw[Qa Gk];exact List.getElem_mem _
  replace hx:=Zb hx;generalize l[i]?.getD 0=z at *;go_wp2_with fail;refine(hC.out _ (by first|exact Qd _ _|exact Zg (Qd _ _) _) _ hx.out).mono ?_;exact Fe
theorem Ij{G:Prop}(h:G:=by
 rintro e w1 ⟨i,rfl,hi,ai⟩;replace hi:=Zb hi;go_wp2_with fail;go_ret;exact⟨Zo6 hi.out,ai⟩):G:=h
theorem Zr5(A:Option Addr)(n c:Nat)(l:List Int)(least:Int)(p:Nat)(w:World)(h:LimI w A n c l)(hp:w.cell? ⟨p,0,none⟩=some (.int .i64 least))(b:Bool)(hb:Zfw least l=b) :
    Calls Tryz.prog 144 #[.slice A n c,.func (.func 145) #[] #[.pointer (some ⟨p,0,none⟩)]] w λe w'=>e=.returned (.bool b)/\Below w.heap.size w w':=by
 go_in;go_wp2_with fail;refine(Zt4 A n c l least p w h hp b hb).mono ?_;exact Ij
theorem Zf2(A:Option Addr)(n c:Nat)(l:List Int)(least:Int)(w:World)(h:LimI w A n c l)(b:Bool)(hb:Zfw least l=b) :
    Calls Tryz.prog 110 #[.slice A n c,.int .i64 least] w λe w'=>e=.returned (.bool b)/\Below w.heap.size w w':=by
 obtain⟨W0,u,f,q0,s0⟩:=Zbp w 2 #[.int .i64 least];have q1:=(q0.cell 0:W0.cell? ⟨w.heap.size,0,none⟩=some (.int .i64 least));have hC:=Zb (λW1 (h1:Below W0.heap.size W0 W1)=>Zr5 A n c l least w.heap.size W1 ((h.below f).below h1) ((h1.cell (Zn q1)).trans q1) b hb);clear h;go_in;go_wp2_with fail;refine(hC.out _ (by first|exact Qd _ _|exact Zg (Qd _ _) _)).mono ?_;rintro e w1 ⟨rfl,o⟩;go_wp2_with fail;go_ret;exact⟨rfl,Gs f o⟩
theorem Zs1(A:Option Addr)(n c:Nat)(w:World)(hn:n<=maxLen) :
    Calls Tryz.prog 109 #[.slice A n c] w λe w'=>e=.returned (.bool (decide (12<n)))/\Below w.heap.size w w':=by
 unfold maxLen at hn;have hd:decide ((12:Int)<(n:Int))=decide (12<n):=decide_eq_decide.2 Gk;go_in;go_wp2_with fail;go_ret;exact⟨by first|rfl|simp[hd],by first|exact Qd _ _|exact Zg (Qd _ _) _⟩
def RI.long(r:RI):Bool:=decide (12<r.n)
theorem Zts(A:Option Addr)(n c:Nat)(rs:List RI)(w:World)(h:MIL w A n c rs)(b:Bool)(hb:rs.any RI.long=b) :
    Calls Tryz.prog 143 #[.slice A n c,.func (.func 109) #[] #[]] w (IdxB w b):=by
 have hl:=h.1;have J:=h.2.1;have u:=h.2.2.1;unfold maxLen at u;replace hl:=Zb hl;replace hb:=Zb hb;replace h:=Zb h;go_in;go_wp2_with fail
 go_loopw [8] (λiv wr=>∃ i:Nat,i<=n/\iv=.int .i64 i/\Hid (∀ j e,j<i->rs[j]?=some e->e.long=false)/\Below w.heap.size w wr) (λiv _=>n-(intOf iv).toNat)
 case atStart=>exact⟨0,Qy _,rfl,Zb (λj e hj=>by omega),Qd _ _⟩
 case round =>
  obtain⟨i,I,rfl,f,aW⟩:=hrel;by_cases hin:i<n
  case neg =>
   obtain rfl:n=i:=Gk;have C:decide ((n:Int)<(n:Int))=false:=Gh
   obtain rfl:b=false:=by
    rw[<- hb.out,Qv];intro e he;obtain⟨j,hj,E⟩:=Qk he;have:=f.out j e (by rw[hl.out]at hj;exact hj) (by rw[Qa hj,E]);rw[this];decide
   go_wp2_with fail;go_ret;exact⟨-1,rfl,rfl,aW⟩
  have C:decide ((i:Int)<(n:Int))=true:=Gv Gk;obtain⟨g,o,r,rfl,he,c0,hL⟩:=(h.out.below aW).at_ hin;have hC:=Zb (λW1=>Zs1 r.A r.n r.c W1 hL.nlen);clear hL;by_cases hx:12<r.n
  ·obtain rfl:b=true:=by
     rw[<- hb.out,QC];exact⟨r,Qc he,by unfold RI.long;simpa using hx⟩
   rw[Gv hx]at hC;replace he:=Zb he;go_wp2_with fail;refine(hC.out _).mono ?_;exact Fe
  have dp:Hid (∀ j e,j<i+1->rs[j]?=some e->e.long=false):=Zb (λj e' hj he'=>by
    rcases Qt j i with h'|h';exact f.out j e' h' he';obtain rfl:j=i:=Gk;rw[he]at he';cases he';unfold RI.long;simpa using hx)
  rw[Gu hx]at hC;replace he:=Zb he;go_wp2_with fail;refine(hC.out _).mono ?_;exact Fu
theorem Zr1(A:Option Addr)(n c:Nat)(rs:List RI)(w:World)(h:MIL w A n c rs)(b:Bool)(hb:rs.any RI.long=b) :
    Calls Tryz.prog 108 #[.slice A n c,.func (.func 109) #[] #[]] w λe w'=>e=.returned (.bool b)/\Below w.heap.size w w':=by
 go_in;go_wp2_with fail;refine(Zts A n c rs w h b hb).mono ?_;exact Ij
def Ze5{α:Type}(V:Nat->α)(k:Nat)(v:α):Nat->α:=λi=>if i=k then v else V i
theorem Zfh{α:Type}(V:Nat->α)(k:Nat)(v:α):Ze5 V k v k=v:=Gx rfl
theorem Zhf{α:Type}(V:Nat->α){k i:Nat}(v:α)(h:i≠k):Ze5 V k v i=V i:=Gw h
def Off(N:Nat)(V:Nat->Value)(g:Nat):Prop:=∀ i,i<N->(V i).ownBlock≠some g
structure OwnN (B:Nat) (w:World) (N:Nat) (T:Nat->TypeId) (V:Nat->Value) (X:Nat->List Value):Prop where
 own:∀ i,i<N->w.ownsRow B (T i) 1 (V i) (X i).length (X i)
 dis:∀ i j,i<N->j<N->i≠j->∀ g,(V i).ownBlock=some g->(V j).ownBlock≠some g
section
variable{B N:Nat}{w w':World}{T:Nat->TypeId}{V:Nat->Value}{X:Nat->List Value}
theorem Zut{t:TypeId}{v:Value}{n:Nat}{xs:List Value}(h:w.ownsRow B t 1 v n xs){g:Nat}(hg:v.ownBlock=some g):B<=g/\g<w.heap.size:=by
 rcases h.2 with ⟨rfl,-⟩|⟨g',cap,cur,rfl,hb,hh,-⟩;cases hg;simp only[Value.ownBlock,Option.some.injEq]at hg;subst hg;exact⟨hb,(Array.getElem?_eq_some_iff.1 hh).1⟩
theorem Zo1{t:TypeId}{v:Value}{n:Nat}{xs:List Value}(h:w.ownsRow B t 1 v n xs)(hb:∀ g,v.ownBlock=some g->w'.heap[g]?=w.heap[g]?):w'.ownsRow B t 1 v n xs:=by
 refine⟨h.1,?_⟩;rcases h.2 with h0|⟨g,cap,cur,hv,hg,hh,r⟩;exact .inl h0;exact .inr ⟨g,cap,cur,hv,hg,(hb g (by rw[hv];rfl)).trans hh,r⟩
theorem OwnN.lt(h:OwnN B w N T V X){i g:Nat}(hi:i<N)(hg:(V i).ownBlock=some g):B<=g/\g<w.heap.size:=Zut (h.own i hi) hg
theorem OwnN.below(h:OwnN B w N T V X)(hb:Below w.heap.size w w'):OwnN B w' N T V X:=
 ⟨λi hi=>Zo1 (h.own i hi) λg hg=>hb.block g (h.lt hi hg).2,h.dis⟩
theorem OwnN.off(h:OwnN B w N T V X){g:Nat}(hg:g<B \/ w.heap.size<=g):Off N V g:=λi hi e=>by
 have:=h.lt hi e;omega
theorem Off.block{g k:Nat}(h:Off N V g)(hk:k<N)(hlt:g<w.heap.size)(hg:w.grownBy w' (V k).ownBlock):w'.heap[g]?=w.heap[g]?:=
 hg.block g hlt (λe=>h k hk e.symm)
theorem Off.blk{g k:Nat}{t:TypeId}{cs:Array Value}(h:Off N V g)(hk:k<N)(hb:Blk w g t cs)(hg:w.grownBy w' (V k).ownBlock):Blk w' g t cs:=(h.block hk hb.lt hg).trans hb
theorem Off.push{g k:Nat}{v':Value}(h:Off N V g)(hlt:g<w.heap.size)(hk:k<N)(hv:v'.ownBlock=(V k).ownBlock \/ v'.ownBlock=some w.heap.size):Off N (Ze5 V k v') g:=λi hi e=>by
 by_cases hik:i=k
 ·subst hik
  rw[Zfh]at e;rcases hv with hv|hv;exact h i hi (hv.symm.trans e);rw[hv]at e;simp only[Option.some.injEq]at e;omega
 rw[Zhf _ _ hik]at e;exact h i hi e
theorem OwnN.push(h:OwnN B w N T V X){k:Nat}{v':Value}{xs:List Value}(hk:k<N)(ho:w'.ownsRow B (T k) 1 v' xs.length xs)(hg:w.grownBy w' (V k).ownBlock)
    (hv:v'.ownBlock=(V k).ownBlock \/ v'.ownBlock=some w.heap.size):OwnN B w' N T (Ze5 V k v') (Ze5 X k xs):=by
 refine⟨λi hi=>?_,λi j hi hj hij g hgi=>?_⟩
 ·by_cases hik:i=k
  subst hik;rw[Zfh,Zfh];exact ho;rw[Zhf _ _ hik,Zhf _ _ hik];exact Zo1 (h.own i hi) λg hgi=>hg.block g (h.lt hi hgi).2 (λe=>h.dis i k hi hk hik g hgi e.symm)
 by_cases hik:i=k
 ·subst hik
  rw[Zfh]at hgi;rw[Zhf _ _ (Qx hij)];rcases hv with hv|hv;exact h.dis i j hi hj hij g (hv.symm.trans hgi);rw[hv]at hgi;simp only[Option.some.injEq]at hgi;intro e;have:=(h.lt hj e).2;omega
 rw[Zhf _ _ hik]at hgi;by_cases hjk:j=k
 ·subst hjk
  rw[Zfh];rcases hv with hv|hv;rw[hv];exact h.dis i j hi hj hij g hgi;rw[hv];intro e;simp only[Option.some.injEq]at e;have:=(h.lt hi hgi).2;omega
 rw[Zhf _ _ hjk];exact h.dis i j hi hj hij g hgi
theorem OwnN.none_(w:World)(N B:Nat)(T:Nat->TypeId):OwnN B w N T (λ_=>.slice none 0 0) (λ_=>[]):=
 ⟨λi _=>⟨by simp,.inl ⟨rfl,rfl⟩⟩,λi j _ _ _ _ hg=>(by cases hg)⟩
theorem Zk5(h:OwnN B w N T V X){k:Nat}(hk:k<N)(hB:B<=w.heap.size)(hg:w.grownBy w' (V k).ownBlock):Below B w w':=
 (Qd _ _).grown hg hB (λg e=>(h.lt hk e).1)
end
def Zi1(r:RI):Value:=.slice r.A r.n r.c
def RowO(N:Nat)(V:Nat->Value)(w:World)(r:RI):Prop:=LimI w r.A r.n r.c r.l/\∀ a,r.A=some a->a.block<w.heap.size/\Off N V a.block
section
variable{N:Nat}{w w':World}{V:Nat->Value}
theorem LimI.same{A:Option Addr}{n c:Nat}{l:List Int}(h:LimI w A n c l)(hk:∀ a,A=some a->w'.heap[a.block]?=w.heap[a.block]?):LimI w' A n c l:=
 ⟨h.1,h.2.1,h.2.2.1,h.2.2.2.1,λhn=>by
  obtain⟨b,o,e,hc⟩:=h.2.2.2.2 hn;refine⟨b,o,e,λk hk'=>(World.cell?_of_block ?_).trans (hc k hk')⟩;exact hk ⟨b,o,none⟩ e⟩
theorem RowO.below{r:RI}(h:RowO N V w r)(hb:Below w.heap.size w w'):RowO N V w' r:=
 ⟨h.1.below hb,λa ha=>⟨Qe (h.2 a ha).1 hb.size,(h.2 a ha).2⟩⟩
theorem RowO.push{r:RI}(h:RowO N V w r){k:Nat}{v':Value}(hk:k<N)(hg:w.grownBy w' (V k).ownBlock)(hv:v'.ownBlock=(V k).ownBlock \/ v'.ownBlock=some w.heap.size):RowO N (Ze5 V k v') w' r:=
 ⟨h.1.same λa ha=>(h.2 a ha).2.block hk (h.2 a ha).1 hg,λa ha=>⟨Qe (h.2 a ha).1 hg.size,(h.2 a ha).2.push (h.2 a ha).1 hk hv⟩⟩
theorem RowO.fresh{B:Nat}{T:Nat->TypeId}{X:Nat->List Value}{t:TypeId}{b:Nat}{v:Value}{l:List Int}(h:OwnN B w N T V X)(ho:OwnI t w' b v l)(hwb:w.heap.size<=b):∃ r:RI,v=.slice r.A r.n r.c/\r.n=l.length/\r.l=l/\RowO N V w' r:=by
 obtain⟨A,c,rfl,hl⟩:=ho.lim;refine⟨⟨A,l.length,c,l⟩,rfl,rfl,rfl,hl,λa ha=>?_⟩;have e:A=some a:=ha;subst e;have h1:=Zut ho.1 (g:=a.block) rfl;exact⟨h1.2,h.off (.inr Gk)⟩
theorem mil_of{B:Nat}{T:TypeId}{v:Value}{rs:List RI}(ho:w.ownsRow B T 1 v (rs.map Zi1).length (rs.map Zi1))(hr:∀ r ∈ rs,LimI w r.A r.n r.c r.l):∃ A c,v=.slice A rs.length c/\MIL w A rs.length c rs:=by
 rw[Qo]at ho;rcases ho.2 with ⟨hv,h0⟩|⟨g,cap,cur,hv,hg,hh,e,f,u,ht⟩
 ·have:rs=[]:=Qj h0
  subst this;exact⟨none,0,hv,rfl,Qg _,Qy _,λr hr=>(by cases hr),λh=>absurd h (Nat.lt_irrefl 0)⟩
 refine⟨_,cap,hv,rfl,e,f,hr,λ_=>⟨g,0,rfl,λk r hk=>?_⟩⟩;have o:k<rs.length:=(List.getElem?_eq_some_iff.1 hk).1;rw[Qw,cell_of_row w g k cur T (0,0) hh];have h3:(cur.toList.take (rs.length*1))[k]?=(rs.map Zi1)[k]?:=by rw[ht]
 rw[List.getElem?_take,Gx Gk,Qi,hk]at h3;simpa [Zi1]using h3
theorem Znq{B:Nat}{T:TypeId}{v:Value}{l:List Int}(ho:w.ownsRow B T 1 v (l.map intv).length (l.map intv))(hl:∀ x ∈ l,I64 x):∃ A c,v=.slice A l.length c/\LimI w A l.length c l:=by
 rw[Qo]at ho;exact OwnI.lim ⟨ho,hl⟩
end
section
variable{P:Program}{ops:Array Oper}{Q:Exit->Act->World->Prop}{md:Region.Mode}{L:List Nat}{S:World->Prop}
theorem Zuu(R:List Nat)(J:(Nat->Option Value)->World->Prop){l0:Array Bool}{a0:Act}(hok:Zlc md ops R l0=true)
    (hS:∀ d w,J d w->S w) {F:Nat}
    (hop:∀ i ∈ R,∀ (d:Nat->Option Value) (ν:Nat->Value) (w:World),d i=none->(∀ j ∈ R,j ∈ Zal md ops i->d j=some (ν (Zaf ops j)))->J d w ->
     wpOp P ops Q i (λa' w'=>∃ v,a'=(Zaj (R.map (Zaf ops)) a0 ν).put (some (Zaf ops i)) v/\J (λk=>if k=i then some v else d k) w') (Zaj (R.map (Zaf ops)) a0 ν) w)
    (hfin:∀ (d:Nat->Option Value) (ν:Nat->Value) (w:World),J d w->(∀ i ∈ R,d i=some (ν (Zaf ops i)))->Zu P md ops Q L S F (Za7 R l0) (Zaj (R.map (Zaf ops)) a0 ν) w) :
    ∀ (n:Nat) (l:Array Bool) (d:Nat->Option Value) (ν:Nat->Value) (w:World),n=Zcy R l->l.size=l0.size->(∀ k,k ∉ R->l.getD k true=l0.getD k true)->(∀ k,l0.getD k false=true->l.getD k false=true) ->
     (∀ r ∈ R,l.getD r false=true->∀ p ∈ Zal md ops r,l.getD p false=true)->J d w->(∀ r ∈ R,l.getD r true=true->d r=some (ν (Zaf ops r)))->(∀ r ∈ R,l.getD r true=false->d r=none) ->
     Zu P md ops Q L S (n+F) l (Zaj (R.map (Zaf ops)) a0 ν) w:=by
 obtain⟨a8,E,I,b3⟩:=Zjt hok;obtain⟨t1,t2⟩:=Zi7 R l0 a8;intro n
 induction n using Nat.strongRecOn with
 | _ n ih =>
  intro l d ν w hn hsz hK hM hD hb hΦ hN
  have a9:∀ r ∈ R,r<l.size:=λr hr=>by
   obtain⟨-,o,dd,ho,-⟩:=t1 r hr;exact IR
  have b5:∀ k,k<l.size->l.getD k true=true->l.getD k false=true:=λk hk h=>by
   rw[Qz,Array.getElem?_eq_getElem hk]at h ⊢;exact h
  cases n with
  | zero =>
   have hl:=Zui hn.symm
   have:l=Za7 R l0:=by
    refine Zkj (by rw[Zei];exact hsz) λk=>?_;rw[Zbv];by_cases hk:k ∈ R;rw[Gx hk];exact hl k hk;rw[Gw hk];exact hK k hk
   subst this;rw[Qw];exact hfin d ν w hb λi hi=>hΦ i hi (hl i hi)
  | succ n =>
   have Y:∃ r ∈ R,l.getD r true=false:=by
    apply Classical.byContradiction;intro a4
    have:Zcy R l=0:=by
     unfold Zcy;rw[List.length_eq_zero_iff,List.filter_eq_nil_iff];intro r hr h;exact a4 ⟨r,hr,by simpa using h⟩
    omega
   obtain⟨r,hr,b2,a6⟩:=t2 l hsz hM Y;obtain⟨-,o,dd,ho,-⟩:=t1 r hr;have u:=Zeu (md:=md) b2 ho a6;rw[Nat.add_right_comm];refine⟨λh0=>(by rw[h0]at u;cases u),λi hi=>?_⟩;obtain⟨C,b0,cn⟩:=Zgj hi
   have f:i ∈ R:=by
    apply Classical.byContradiction;intro a2;unfold outOk at E;rw[Qh]at E;have h1:=E i (List.mem_range.2 b0);simp only[QE,QC,Qh,Qr,Bool.not_eq_true']at h1;rcases h1 with ((h1|h1)|⟨p,hp,h2,h3⟩)|h1;exact a2 (List.contains_iff_mem.1 h1);rw[hK i a2,h1]at C;cases C
    ·have ig:p ∉ R:=λh=>by rw[List.contains_iff_mem.2 h]at h2;cases h2
     exact EK
    have h2:=Zl5 (md:=md) (ops:=ops) (l:=l) (R:=R) hD R.reverse (Zal md ops i) (λr hr=>List.mem_reverse.1 hr) cn;obtain⟨y,hy,a7⟩:=Y;have h3:=Zct (h2 y (List.contains_iff_mem.1 (h1 y hy)));rw[a7]at h3;cases h3
   have b1:Zaf ops i ∈ R.map (Zaf ops):=List.mem_map.2 ⟨i,f,rfl⟩
   have a1:(l.setIfInBounds i true).getD i false=true:=by
    rw[Qz,Array.getElem?_setIfInBounds_self,Gx (a9 i f)];rfl
   refine wpOp_mono (λa' w' h=>?_) (hop i f d ν w (hN i f C) (λj hj hp=>hΦ j hj (Zct (cn j hp))) hb);obtain⟨v,rfl,a3⟩:=h;refine⟨λ_=>hS _ _ a3,?_⟩;rw[Zhi b1 I];have b4:=Zii (Zhw I) f C
   have U:=ih (Zcy R (l.setIfInBounds i true)) Gk (l.setIfInBounds i true) (λk=>if k=i then some v else d k) (upd ν (Zaf ops i) v) w' rfl (by simp;exact hsz) (λk hk=>by
    rw[Go.getD_set_ne true (λe:i=k=>hk (e▸f))];exact hK k hk) (λk hk=>Zai (hM k hk)) (λr hr hrt p hp=>by
    by_cases hri:r=i;subst hri;exact Zai (cn p hp)
    ·rw[Go.getD_set_ne false (Qx hri)]at hrt
     exact Zai (hD r hr hrt p hp)) a3 (λr hr hrt=>by
    unfold upd;by_cases hri:r=i;subst hri;simp
    ·have a5:Zaf ops r≠Zaf ops i:=Zek I hr f hri
     rw[Gw a5];rw[Go.getD_set_ne true (Qx hri)]at hrt;simp only[Gw hri];exact hΦ r hr hrt) (λr hr hrt=>by
    by_cases hri:r=i;subst hri;rw[Zct a1]at hrt;cases hrt;rw[Go.getD_set_ne true (Qx hri)]at hrt;simp only[Gw hri];exact hN r hr hrt)
   have O:Zcy R (l.setIfInBounds i true)=n:=Gk;rw[O]at U;exact U
theorem Znv(R:List Nat)(J:(Nat->Option Value)->World->Prop)(F:Nat){l0:Array Bool}{a0:Act}{w0:World}(hok:Zlc md ops R l0=true)(h0:J (λ_=>none) w0)
    (hS:∀ d w,J d w->S w)
    (hop:∀ i ∈ R,∀ (d:Nat->Option Value) (ν:Nat->Value) (w:World),d i=none->(∀ j ∈ R,j ∈ Zal md ops i->d j=some (ν (Zaf ops j)))->J d w ->
     wpOp P ops Q i (λa' w'=>∃ v,a'=(Zaj (R.map (Zaf ops)) a0 ν).put (some (Zaf ops i)) v/\J (λk=>if k=i then some v else d k) w') (Zaj (R.map (Zaf ops)) a0 ν) w)
    (hfin:∀ (d:Nat->Option Value) (ν:Nat->Value) (w:World),J d w->(∀ i ∈ R,d i=some (ν (Zaf ops i)))->Zu P md ops Q L S F (Za7 R l0) (Zaj (R.map (Zaf ops)) a0 ν) w) :
    Zu P md ops Q L S (R.length+F) l0 a0 w0:=by
 obtain⟨o,C,E,u⟩:=Zjt hok;obtain⟨t1,t2⟩:=Zi7 R l0 o;have e:∀ r ∈ R,l0.getD r true=false:=λr hr=>(t1 r hr).1
 have f:Zcy R l0=R.length:=by
  unfold Zcy;rw[List.filter_eq_self.2 (λr hr=>by rw[e r hr];rfl)]
 have h:=Zuu R J hok hS hop hfin R.length l0 (λ_=>none) (λd=>a0.tmps.getD d undef) w0 f.symm rfl (λ_ _=>rfl) (λ_ h=>h)
  (λr hr h=>by have h1:=Zct h;rw[e r hr]at h1;cases h1) h0 (λr hr h=>by rw[e r hr]at h;cases h) (λ_ _ _=>rfl)
 rw[Zkd]at h;exact h
theorem Zo7(R:List (Nat × Nat))(J:(Nat->Option Value)->World->Prop)(F:Nat){l0:Array Bool}{a0:Act}{w0:World}(hok:(Zlc md ops (R.map (·.1)) l0 && R.all (λp=>Zaf ops p.1 == p.2))=true)(h0:J (λ_=>none) w0)
    (hS:∀ d w,J d w->S w)
    (hop:∀ p ∈ R,∀ (d:Nat->Option Value) (ν:Nat->Value) (w:World),d p.1=none->(∀ q ∈ R,(Zal md ops p.1).contains q.1=true->d q.1=some (ν q.2))->J d w ->
     wpOp P ops Q p.1 (λa' w'=>∃ v,a'=(Zaj (R.map (·.2)) a0 ν).put (some p.2) v/\J (λk=>if k=p.1 then some v else d k) w') (Zaj (R.map (·.2)) a0 ν) w)
    (hfin:∀ (d:Nat->Option Value) (ν:Nat->Value) (w:World),J d w->(∀ p ∈ R,d p.1=some (ν p.2))->Zu P md ops Q L S F (Za7 (R.map (·.1)) l0) (Zaj (R.map (·.2)) a0 ν) w) :
    Zu P md ops Q L S (R.length+F) l0 a0 w0:=by
 rw[Qr]at hok;have hD:=Zju (ops:=ops) R hok.2
 have hd:∀ p ∈ R,Zaf ops p.1=p.2:=λp hp=>by
  have:=hok.2;rw[Qh]at this;simpa using this p hp
 have h:=Znv (P:=P) (ops:=ops) (Q:=Q) (md:=md) (L:=L) (S:=S) (R.map (·.1)) J F hok.1 h0 hS (λi hi d ν w hn hP hJ=>by
  obtain⟨p,hp,rfl⟩:=List.mem_map.1 hi
  have:=hop p hp d ν w hn (λq hq hc=>by
   have:=hP q.1 (List.mem_map.2 ⟨q,hq,rfl⟩) (List.contains_iff_mem.1 hc);rw[hd q hq]at this;exact this) hJ
  rw[hD,hd p hp];exact this) (λd ν w hb hf=>by
  rw[hD]
  exact hfin d ν w hb (λp hp=>by
   have:=hf p.1 (List.mem_map.2 ⟨p,hp,rfl⟩);rw[hd p hp]at this;exact this))
 rw[Qo]at h;exact h
end
theorem MFL.twoL{w:World}{g:Nat}{t:TypeId}{A B:Option Addr}{n c m d:Nat}{p q:List Rat}(h:Blk w g t #[.slice A n c,.slice B m d])(hp:FL w A n c p)(hq:FL w B m d q):MFL w (some ⟨g,0,none⟩) 2 2 [p,q]:=by
 refine⟨rfl,Qg _,by decide,λ_=>⟨g,0,rfl,λk r hr=>?_⟩⟩;rcases k with _|_|k;cases hr;exact⟨A,n,c,h.cell 0,hp⟩;cases hr;exact⟨B,m,d,h.cell 1,hq⟩;simp at hr
theorem Ew{G:Prop}(h:G:=by
 replace h3:=Zb h3;replace hT:=Zb hT;go_in;go_wp2_with fail;(try rw[bH]);(try rw[gY]);(try rw[hV]);refine(cJ.out iO iP).mono ?_;rintro e w1 ⟨v1,rfl,ai,gI⟩;obtain⟨A1,c1,jg,dV⟩:=gI.fl;subst jg;rw[du.out]at dV ⊢;have ab:=Gn eD ai;have ff:=dV.cap;unfold maxLen at ff;replace dV:=Zb dV;clear gI ai cJ hM bH hV x0 x1 x2;go_wp2_with fail
 go_loopg [36] N (λk iv wr=>∃ i:Nat,i+k=N/\iv=.int .i64 i/\Hid (∀ j,j<i->Zac (L[j]?.getD 0)=true)/\Below w.heap.size w wr/\Below w1.heap.size w1 wr)
 case atStart=>exact⟨0,by omega,rfl,Zb (λj h=>absurd h (Nat.not_lt_zero _)),ab.out,Below.refl _ _⟩
 case round =>
  clear ab;obtain⟨i,jI,rfl,il,hB,hb⟩:=hrel;obtain⟨wA,rfl⟩:=Gy wr;cases gk with
  | zero =>
   obtain rfl:i=N:=Gk;have tge:decide ((i:Int)<(i:Int))=false:=Gh
   have hall:Hid (R=0):=Zb (by
    rw[<- hR.out,Gx];rw[List.all_eq_true];intro x hx;obtain⟨j,hj,e⟩:=List.getElem_of_mem hx;have h1:=il.out j (by rw[<- du.out];exact hj);rw[List.getElem?_eq_getElem hj,e]at h1;exact h1)
   replace hB:=Zb hB;go_wp2_with fail;go_ret;exact⟨by rw[hall.out];rfl,hB.out⟩
  | succ gk' =>
   obtain rfl:gk'=N-(i+1):=Gk;have hH:i<N:=Gk;have tlt:decide ((i:Int)<(N:Int))=true:=by simp;omega
   have bI:(i:Int)<(N:Int):=Gk;obtain⟨b,o,n1,A2,k1,c2,m1,B1,j1,d1,iM,iV,hF⟩:=(dV.out.below hb).at_ hH;cases iM;obtain⟨p0,p1,p2,p3⟩:=iV;obtain⟨V2,gP,eT,dC⟩:=Zz (w:=wA) 32 #[.bool false,.slice none 0 0,.bool false,.slice none 0 0];obtain⟨gv,gZ⟩:=Gz wA.heap.size;rw[gZ]at eT;obtain⟨z0,z1,z2,z3,z4,z5,z6,z7⟩:=eT.four;obtain⟨Y,hY,fu,qY,kY,bY,sY⟩:=Zm n1 A2 k1 c2 m1 B1 j1 d1 dC Gk eT;have gH:=Zb (Fr.keep (hF.below dC) kY);have fa:=Zb (Gs hB fu);have aa:=Zb (Gs hb fu);obtain⟨y0,y1,y2,y3,-⟩:=qY.four;clear kY bY eT hF hB hb;go_wp2_with fail;(try rw[gZ]);(try rw[gP]);(try rw[hY]);clear gP hY z0 z1 z2 z3 z4 z5 z6 z7 p0 p1 p2 p3;obtain⟨v,hv⟩:=Gz (Zac (L[i]?.getD 0));have hs:=Ze8 n1 m1 A2 B1 k1 c2 j1 d1 (L[i]?.getD 0) Y gH.out;rw[hv]at hs;refine hs.mono ?_;rintro e w3 ⟨rfl,ae⟩;have aO:=Gn fa ae;have cH:=Gn aa ae;replace hv:=Zb hv;clear hs y0 y1 y2 y3 ae fa aa gH fu dC;cases v with
   | false =>
    have hall:Hid (R=8):=Zb (by
     rw[<- hR.out,Gw];rw[List.all_eq_true];intro h;have hj:i<L.length:=by rw[du.out];exact hH
     have h1:=h _ (List.getElem_mem hj);have h2:=hv.out;rw[List.getElem?_eq_getElem hj]at h2;rw[show (some L[i]).getD 0=L[i] from rfl,h1]at h2;cases h2)
    go_wp2_with fail;go_ret;exact⟨by rw[hall.out];rfl,aO.out⟩
   | true =>
    go_wp2_with fail
    go_roundg (N-(i+1))
    case measure=>omega
    case rel=>exact⟨i+1,by omega,by go_num,Zb (λj hj=>by
        rcases Nat.lt_or_ge j i with h'|h';exact il.out j h';obtain rfl:j=i:=Gk;exact hv.out),aO.out,cH.out⟩):G:=h
theorem Zg6(T:Nat)(X E:Option Addr)(c d:Nat)(qs rs:List Rat)(w:World)(hT:T=3 \/ T=10)(hq:FL w X T c qs)(hr:FL w E T d rs) :
    Calls Tryz.prog 27 #[.agg #[.int .i64 T,.slice X T c,.slice E T d]] w λe w'=>e=.returned (.int .i64 (if (qs++rs).all Zac=true then 0 else 8))/\Below w.heap.size w w':=by
 have U:=hq.len;have O:=hr.len;have a1:=hq.cap;have a0:=hr.cap;unfold maxLen at a1 a0;obtain⟨W0,bH,f,q0,s0⟩:=Zbp w 27 #[.int .i64 T,.slice X T c,.slice E T d];have a3:((T:Int) != (T:Int))=false:=Gh;have x0:=q0.cell 0;have x1:=q0.cell 1;have x2:=q0.cell 2;simp at x0 x1 x2;have C:=hq.below f;have I:=hr.below f;obtain⟨V,hV,qV,u⟩:=Zz (w:=W0) 25 #[.slice X T c,.slice E T d];obtain⟨gV,gY⟩:=Gz W0.heap.size;rw[gY]at qV;have hM:=Zb (MFL.twoL qV (C.below u) (I.below u));have eD:=Gs f u;have J:[qs,rs].flatten=qs++rs:=Gh;have du:(qs++rs).length=T+T:=by rw[Qb,U,O]
 have cJ:=Zb (λh0 h9=>Zr4 (some ⟨gV,0,none⟩) 2 2 [qs,rs] V hM.out Gi h0 h9);rw[J,du]at cJ;obtain⟨L,hL⟩:=Gz (qs++rs);rw[hL]at cJ du ⊢;obtain⟨R,hR⟩:∃ R:Int,(if L.all Zac=true then (0:Int)else 8)=R:=⟨_,rfl⟩;rw[hR];replace hR:=Zb hR;obtain⟨N,hN⟩:=Gz (T+T);rw[hN]at cJ du;have iO:0<N:=Gk;have iP:N<=900:=Gk;replace du:=Zb du;replace hL:=Zb hL;replace hN:=Zb hN;replace eD:=Zb eD;clear J U O hq hr C I qV u s0;by_cases h3:T=3
 ·have e3:((T:Int) != 3)=false:=by rw[h3];rfl
  exact Ew
 have e3:((T:Int) != 3)=true:=by simp;omega
 have a2:((T:Int) != 10)=false:=by rcases hT with h|h;exact absurd h h3;rw[h];rfl
 exact Ew
section
variable{tF:TypeId}{w w':World}{base:Nat}{part:List Rat}{cs:Array Value}
theorem OwnF.ownBlk{v:Value}(h:OwnF tF w base v part):∀ k,v.ownBlock=some k->∃ cs,Blk w k tF cs/\NoLimb cs/\base<=k:=λk hk=>by
 obtain⟨es,h1,h2,h3⟩:=h;rcases h1 with ⟨rfl,_⟩|⟨g',sp,rfl,h4,h5,h6⟩;cases hk;have:g'=k:=by simpa [Value.ownBlock]using hk
 subst this;exact⟨_,h6,Zgw _,h4⟩
theorem OwnF.keptG{v:Value}(h:OwnF tF w base v part){g':Nat}{t':TypeId}(hb:Blk w g' t' cs)(hn:NoLimb cs)(hne:v.ownBlock≠some g')(hk:Kept (λk=>k=g') w w'):OwnF tF w' base v part:=by
 have hG:∀ k,k=g'->∃ t cs,Blk w k t cs/\NoLimb cs:=λk hk=>⟨t',cs,hk▸hb,hn⟩;obtain⟨es,h1,h2,h3⟩:=h;refine⟨es,?_,λe he=>⟨hk.wd (h2 e he).1 hG,hk.wd (h2 e he).2 hG⟩,h3⟩;rcases h1 with h|⟨g2,sp,rfl,h4,h5,h6⟩;exact .inl h;exact .inr ⟨g2,sp,rfl,h4,h5,hk.blk h6 (λe=>hne (by rw[<- e];rfl))⟩
end
section
variable{P:Program}(w:World)
theorem Ee{G:Prop}(h:G:=by
 have hf:=run_firstCells_some (P:=P) w i.size 0 ad 0 c [] Gh Gh;rcases ah with ⟨rfl,rfl⟩|⟨g,sp,rfl,h2,h3,h4⟩
 ·refine⟨.slice none 0 0,w,?_,.inl ⟨rfl,rfl⟩,World.grownBy.refl w _,.inl rfl⟩
  exact Ct
 refine⟨_,w,?_,.inr ⟨g,sp,rfl,h2,h3,h4⟩,World.grownBy.refl w _,.inl rfl⟩;exact Cu):G:=h
theorem Zjf(base:Nat)(t ty e:TypeId)(i:TypeInfo)(ht:P.underlying t=some (.slice e))(hi:P.info? e=some i)(hz:i.zero=some (.agg #[.bool false,.slice none 0 0,.bool false,.slice none 0 0]))
    (hs:i.size=4) (hby:i.bytes=64) (v:Value) (es:List FE) (ah:RowF e w base v es)
    (B:Nat) (A:Option Addr) (m c:Nat) (fs:List FE) (hr:Reads w B 4 A m (Zs fs)) (hm:fs.length=m) (h63:es.length+m<=1000) (hbase:base<=w.heap.size) :
    ∃ v' w',(Builtin.append_ #[t,t] ty #[v,.slice A m c]).run P w=.ok v' w'/\RowF e w' base v' (es++fs)/\w.grownBy w' v.ownBlock/\(v'.ownBlock=v.ownBlock \/ ∀ k,v'.ownBlock=some k->w.heap.size<=k):=by
 rcases Nat.eq_zero_or_pos m with h0|h0
 ·subst h0
  obtain rfl:fs=[]:=Qj hm;rw[List.append_nil];rcases A with _|ad;exact⟨v,w,Zce w base t ty e i 4 ht hi v _ _ ah.own c,ah,World.grownBy.refl w _,.inl rfl⟩;exact Ee
 obtain⟨ad,rfl,_,hc⟩:=hr.2 h0;have hl:(Zs fs).length=m*i.size:=by rw[Zy,hm,hs]
 have dL:es.length*i.size=(Zs es).length:=by rw[Zy,hs]
 rcases ah with ⟨rfl,rfl⟩|⟨g,sp,rfl,h2,h3,h4⟩
 ·have f:=run_append_nil (P:=P) w t ty e i _ ht hi hz ad m c (Zs fs) hl hc h0 Gk (by rw[hby];omega)
  have h:=grownCap_ge w m 0 e;have o:=grownCap_le_maxLen w m 0 e (by unfold maxLen;simp only[List.length_nil]at h63;omega);refine⟨_,_,f,.inr ⟨w.heap.size,grownCap w m 0 e-m,?_,hbase,?_,?_⟩,⟨rfl,rfl,rfl,by simp,λk hk _=>Below.heap_alloc w.drew _ k hk⟩,.inr (λk hk=>by first|(simp[Value.ownBlock]at hk;omega)|(cases hk;exact Qg _))⟩;rw[QO,hm,Qm h];rw[QO,hm,Qm h];exact o;exact Eg
 by_cases hroom:m<=sp
 ·have f:=run_append_room (P:=P) w t ty e i ht hi g es.length (es.length+sp) _ h4 ad m c (Zs fs) hl hc (Zlh fs) Gk (by rw[dL,Zy,Zy];simp[Zay,Zy];omega)
  refine⟨_,_,f,.inr ⟨g,sp-m,?_,h2,?_,?_⟩,⟨rfl,rfl,rfl,by simp[World.setRow],λk _ hk=>setRow_other w g k _ (λe'=>hk (by simp[Value.ownBlock,e']))⟩,.inl rfl⟩;rw[Qb,hm,show es.length+m+(sp-m)=es.length+sp by omega];rw[Qb,hm];omega;exact EU
 have C:∀ j u,(Zs es)[j]?=some u->w.cell? ((⟨g,0,none⟩:Addr).add j)=some u:=λj u hu=>by
   rw[Zf,Qw,h4.cell];simp only[Zay,List.getElem?_toArray,Za0];exact Fw
 have f:=run_append_grow (P:=P) w t ty e i _ ht hi hz ⟨g,0,none⟩ es.length (es.length+sp) (Zs es) dL.symm C ad m c (Zs fs) hl hc Gk Gk (growslice_fits Gk (by rw[hby];omega));have h:=grownCap_ge w (es.length+m) (es.length+sp) e;have o:=grownCap_le_maxLen w (es.length+m) (es.length+sp) e (by unfold maxLen;omega);refine⟨_,_,f,.inr ⟨w.heap.size,grownCap w (es.length+m) (es.length+sp) e-(es.length+m),?_,hbase,?_,?_⟩,⟨rfl,rfl,rfl,by simp,λk hk _=>Below.heap_alloc w.drew _ k hk⟩,.inr (λk hk=>by first|(simp[Value.ownBlock]at hk;omega)|(cases hk;exact Qg _))⟩;rw[Qb,hm,Qm h];rw[Qb,hm,Qm h];exact o;exact El
theorem Zf7{o:Oper}{a:Act}{K:Act->World->Prop}{Q:Exit->Act->World->Prop}(s x:Operand)(t:TypeId)
    (ho:o.op=.call { callee:=.builtin .append,args:=#[s,x],argTypes:=#[t,t] })
    (base:Nat) (e:TypeId) (i:TypeInfo) (ht:P.underlying t=some (.slice e)) (hi:P.info? e=some i) (hz:i.zero=some (.agg #[.bool false,.slice none 0 0,.bool false,.slice none 0 0])) (hsi:i.size=4) (hby:i.bytes=64)
    (v:Value) (qs:List Rat) (hs:a.eval s=v) (hown:OwnF e w base v qs)
    (B:Nat) (A:Option Addr) (m c:Nat) (fs:List FE) (hx:a.eval x=.slice A m c) (hr:Reads w B 4 A m (Zs fs)) (hm:fs.length=m) (gU:∀ e ∈ fs,e.in_ w)
    (h63:qs.length+m<=1000) (hbase:base<=w.heap.size)
    (h:∀ v' w',OwnF e w' base v' (qs++fs.map FE.q)->w.grownBy w' v.ownBlock->(∀ (A:Option Addr) (n c:Nat) (l:List Nat),Lim w A n c l->Lim w' A n c l)->(v'.ownBlock=v.ownBlock \/ ∀ k,v'.ownBlock=some k->w.heap.size<=k)->K (a.put o.dst v') w'):o.wp P a w K Q:=by
 obtain⟨es,h1,h2,rfl⟩:=hown;rw[Qo]at h63;obtain⟨v',w',f,h3,h4,h5⟩:=Zjf (P:=P) w base t o.type e i ht hi hz hsi hby v es h1 B A m c fs hr hm h63 hbase;unfold Oper.wp execOp;simp only[ho,resolve,invoke,builtin,Sem.run_bind,Sem.run_pure,Result.andThen_ok,QJ,List.map_cons,List.map_nil,hs,hx,f];have hk:∀ (A:Option Addr) (n c:Nat) (l:List Nat),Lim w A n c l->Lim w' A n c l:=λ_ _ _ _ hL=>h1.keep h4 hL;refine h v' w' ⟨es++fs,h3,λe he=>?_,by rw[QN]⟩ h4 hk h5;exact Ia
end
def MatA(tS tF:TypeId)(w:World)(base go:Nat)(rs:List RS)(Q:List (List Rat)):Prop:=
 (∃ zs,Blk w go tS (Zao (rs++zs)))/\base<=go/\rs.length=Q.length/\(∀ (i:Nat) (r:RS),rs[i]?=some r->OwnF tF w base r.val (Q[i]?.getD [])) /\
  ∀ (i j:Nat) (r s:RS) (k:Nat),rs[i]?=some r->rs[j]?=some s->i≠j->r.val.ownBlock=some k->s.val.ownBlock≠some k
section
variable{tS tF:TypeId}{w w':World}{base go:Nat}{rs:List RS}{Q:List (List Rat)}
theorem MatA.below(h:MatA tS tF w base go rs Q)(hb:Below w.heap.size w w'):MatA tS tF w' base go rs Q:=by
 obtain⟨⟨zs,h1⟩,h2,h3,h4,h5⟩:=h;exact⟨⟨zs,Zc hb h1⟩,h2,h3,λi r hr=>(h4 i r hr).kept hb,h5⟩
theorem MatA.cell(h:MatA tS tF w base go rs Q){i:Nat}{r:RS}(hr:rs[i]?=some r):w.cell? ⟨go,i,none⟩=some (.slice r.A r.n r.c)/\w.frozen? ⟨go,i,none⟩=false:=by
 obtain⟨⟨zs,h1⟩,-⟩:=h;refine⟨?_,h1.frozen i⟩;rw[h1.cell];exact Zea (by rw[List.getElem?_append_left (List.getElem?_eq_some_iff.1 hr).1];exact hr)
theorem OwnF.rsn{r:RS}{q:List Rat}(h:OwnF tF w base r.val q):r.n=q.length/\FL w r.A r.n r.c q:=by
 obtain⟨A,c,e,hf⟩:=h.fl;simp only[RS.val,Value.slice.injEq]at e;obtain⟨rfl,e2,rfl⟩:=e;refine⟨e2,?_⟩;rw[e2];exact hf
theorem MatA.mfl(h:MatA tS tF w base go rs Q){c:Nat}(hc:rs.length<=c)(hm:c<=maxLen):MFL w (some ⟨go,0,none⟩) rs.length c Q:=by
 refine⟨h.2.2.1.symm,hc,hm,λ_=>⟨go,0,rfl,λk q hq=>?_⟩⟩;have hk:k<rs.length:=by rw[h.2.2.1];exact(List.getElem?_eq_some_iff.1 hq).1
 have hr:=Qa hk;have h1:=(h.cell hr).1;have h2:=(h.2.2.2.1 k _ hr).rsn.2;rw[hq]at h2;exact⟨_,_,_,by rw[Qw];exact h1,h2⟩
theorem MatA.app(h:MatA tS tF w base go rs Q)(hts:tS≠tF){i:Nat}{r r':RS}{q':List Rat}(hr:rs[i]?=some r)(hg:w.grownBy w' r.val.ownBlock)(ho:OwnF tF w' base r'.val q')(hk:∀ (A:Option Addr) (n c:Nat) (l:List Nat),Lim w A n c l->Lim w' A n c l)
    (hw:r'.val.ownBlock=r.val.ownBlock \/ ∀ k,r'.val.ownBlock=some k->w.heap.size<=k):MatA tS tF (w'.setCell ⟨go,i,none⟩ r'.val) base go (rs.set i r') (Q.set i q'):=by
 obtain⟨⟨zs,h1⟩,h2,h3,h4,h5⟩:=h;have hi:i<rs.length:=(List.getElem?_eq_some_iff.1 hr).1
 have u:∀ (v:Value) (q:List Rat),OwnF tF w base v q->v.ownBlock≠some go:=λv q hv e=>by
  obtain⟨cs,a,-,-⟩:=hv.ownBlk go e;exact hts (h1.type a)
 have b1:Blk w' go tS (Zao (rs++zs)):=(hg.block go h1.lt (λe=>u _ _ (h4 i r hr) e.symm)).trans h1;have f:=Zcg (rs++zs);have kS:Kept (λk=>k=go) w' (w'.setCell ⟨go,i,none⟩ r'.val):=Kept.set_ (G:=λk=>k=go) (Kept.refl _ _) (p:=⟨go,i,none⟩) (.inl rfl) _
 have C:r'.val.ownBlock≠some go:=λe=>by
  obtain⟨cs,a,-,-⟩:=ho.ownBlk go e;exact hts (b1.type a)
 refine⟨⟨zs,?_⟩,h2,by rw[QP,QP];exact h3,λj s hs=>?_,λj l s t k hs ht hjl hsk=>?_⟩
 ·have:=b1.set_ i r'.val
  rw[show r'.val=.slice r'.A r'.n r'.c from rfl,Zev r']at this;rw[List.set_append_left _ _ hi]at this;exact this
 ·rw[QA]at hs
  by_cases hij:i=j
  ·subst hij
   rw[Gx rfl,Gx hi]at hs;cases hs;rw[List.getElem?_set_self Gk,QK];exact ho.keptG b1 f C kS
  rw[Gw hij]at hs;rw[List.getElem?_set_ne hij];have o:=h4 j s hs;have ne:∀ k,s.val.ownBlock=some k->r.val.ownBlock≠some k:=λk e=>h5 j i s r k hs hr (Qx hij) e
  have o2:OwnF tF w' base s.val (Q[j]?.getD []):=by
   obtain⟨es,e1,e2,e3⟩:=o;refine⟨es,?_,λe he=>⟨⟨(e2 e he).1.1,(e2 e he).1.2.1,hk _ _ _ _ (e2 e he).1.2.2⟩,⟨(e2 e he).2.1,(e2 e he).2.2.1,hk _ _ _ _ (e2 e he).2.2.2⟩⟩,e3⟩;rcases e1 with e1|⟨g2,sp,e4,e5,e6,e7⟩;exact .inl e1;exact .inr ⟨g2,sp,e4,e5,e6,(hg.block g2 e7.lt (λe=>ne g2 (by rw[e4];rfl) e.symm)).trans e7⟩
  exact o2.keptG b1 f (u _ _ o) kS
 have fresh:∀ (j:Nat) (s:RS) (k:Nat),j≠i->rs[j]?=some s->s.val.ownBlock=some k->r'.val.ownBlock≠some k:=λj s k hji hs hsk e=>by
   obtain⟨cs,a,-,-⟩:=(h4 j s hs).ownBlk k hsk;have:=a.lt;rcases hw with hw|hw;exact h5 j i s r k hs hr hji hsk (by rw[<- hw];exact e);have:=hw k e;omega
 rw[QA]at hs ht;by_cases h6:i=j
 ·subst h6
  rw[Gx rfl,Gx hi]at hs;rw[Gw hjl]at ht;cases hs;intro e;exact fresh l t k (Qx hjl) ht e hsk
 rw[Gw h6]at hs;by_cases h7:i=l
 ·subst h7
  rw[Gx rfl,Gx hi]at ht;cases ht;exact fresh j s k (Qx h6) hs hsk
 rw[Gw h7]at ht;exact h5 j l s t k hs ht hjl hsk
end
section
variable{tS tF:TypeId}{w w':World}{base:Nat}{v v':Value}{rs:List RS}{Q:List (List Rat)}
end
section
variable{tS tN:TypeId}{w w':World}{base:Nat}{v v1 v1' v2 v2':Value}{rs:List RS}{Q:List (List Rat)}{ds qs:List Rat}
end
theorem FL.pair2{w:World}{g:Nat}{t:TypeId}{xn:Bool}{xA:Option Addr}{xk xc:Nat}{xm:Bool}{xB:Option Addr}{xj xd:Nat}{yn:Bool}{yA:Option Addr}{yk yc:Nat}{ym:Bool}{yB:Option Addr}{yj yd:Nat}{p q:Rat}(h:Blk w g t #[.bool xn,.slice xA xk xc,.bool xm,.slice xB xj xd,.bool yn,.slice yA yk yc,.bool ym,.slice yB yj yd])(hp:Fr w xn xA xk xc xm xB xj xd p)(hq:Fr w yn yA yk yc ym yB yj yd q):FL w (some ⟨g,0,none⟩) 2 2 [p,q]:=by
 refine⟨[⟨xn,xA,xk,xc,xm,xB,xj,xd,p⟩,⟨yn,yA,yk,yc,ym,yB,yj,yd,q⟩],rfl,Qg _,by unfold maxLen;omega,λe he=>?_,rfl,λ_=>⟨g,0,rfl,λk r hr=>?_⟩⟩
 ·simp only[List.mem_cons,QL,or_false]at he
  rcases he with rfl|rfl;exact hp;exact hq
 match k,hr with
 | 0,hr=>cases hr;exact⟨h.cell 0,h.cell 1,h.cell 2,h.cell 3⟩
 | 1,hr=>cases hr;exact⟨h.cell 4,h.cell 5,h.cell 6,h.cell 7⟩
 | k+2,hr=>simp at hr
section
variable{tS tN tX:TypeId}{w w':World}{base bo gl gx:Nat}{v1 v1' v2 v2' V1 V2 own:Value}{rs:List RS}{Q:List (List Rat)}{ds q:List Rat}{ln:Bool}{lA:Option Addr}{lk lc:Nat}{lm:Bool}{lB:Option Addr}{lj ld:Nat}{d:Rat}
end
section
variable{P:Program}{ops:Array Oper}{Q:Exit->Act->World->Prop}{md:Region.Mode}{L:List Nat}{S:World->Prop}
def Zq8(md:Region.Mode)(ops:Array Oper)(L:List Nat)(i m:Nat):Bool:=Zey md ops [m] i && L.all λk=>k != i && (match ops[k]? with|some o=>o.after.any λe=>Region.binds md e && (e.on == i || e.on == m)|none=>false)
theorem Zme{i m:Nat}{oi:Oper}{v:Value}(hi:ops[i]?=some oi)(hsel:∀ (j:Nat) (o:Oper) cs b,ops[j]?=some o->o.op ≠ .select cs b)
    (hQ:∀ c a w,Q (.panic c) (a.put oi.dst v) w->Q (.panic c) a w) (hL:Zq8 md ops L i m=true) :
    ∀ (fuel:Nat) (listed:Array Bool) (a:Act) (w:World),
     (∀ j oj,ops[j]?=some oj->j≠i->listed.getD j true=false->(∀ e ∈ oj.after,Region.binds md e=true->e.on≠i)->oi.apart ops oj=true) ->
     listed.getD m true=false->i ∈ Region.ready md ops listed->YieldsIf P ops S oi v a->Zb4 L listed=true->S w ->
     Zu P md ops Q L S fuel (listed.setIfInBounds i true) (a.put oi.dst v) w->Zu P md ops Q L S (fuel+1) listed a w:=by
 unfold Zq8 at hL;rw[Qr]at hL;obtain⟨C,hL⟩:=hL
 have E:i ∉ L:=λh=>by
  rw[Qh]at hL;have:=hL i h;simp at this
 intro fuel
 induction fuel with
 | zero =>
  intro listed a w _ hM hr hy hn hS H;exact EH
 | succ fuel ih =>
  intro listed a w aE hM hr hy hn hS H;refine⟨λh=>(by rw[h]at hr;cases hr),λj hj=>?_⟩;by_cases aC:j=i;subst aC;exact hy.wpOp hi hS ⟨λ_=>hS,H⟩;have h1:=H.2 j (ready_mono hj aC);obtain⟨aS,oj,cV,hall⟩:=mem_ready.1 hj
  have co:∀ e ∈ oj.after,Region.binds md e=true->e.on≠i:=λe he hb heq=>by
   exact Ed
  have J:j≠m:=λh=>by
   subst h;unfold Zey at C;rw[Qh]at C;have h2:=C j (List.mem_singleton_self _);exact FI
  have f:j ∉ L:=λf=>by
   rw[Qh]at hL;have h2:=hL j f;rw[cV]at h2;simp only[Qr,Array.any_eq_true',QE]at h2;obtain⟨_,e,he,h3,h4⟩:=h2;rcases h4 with h4|h4;exact co e he h3 (by simpa using h4);have h5:=hall e he h3;rw[show e.on=m by simpa using h4]at h5;rcases Qt m listed.size with h'|h';simp[h']at hM h5;rw[hM]at h5;cases h5;simp[Array.getElem?_eq_none h']at h5
  have h2:=wpOp_putIf cV (aE j oj cV aC aS co) (λcs b=>hsel i oi cs b hi) (λcs b=>hsel j oj cs b cV) hQ hy h1
  have u:∀ k ok,ops[k]?=some ok->k≠i->(listed.setIfInBounds j true).getD k true=false ->
      (∀ e ∈ ok.after,Region.binds md e=true->e.on≠i)->oi.apart ops ok=true:=λk ok hk hki hun eO=>by
   exact EF
  have I:Zb4 L (listed.setIfInBounds j true)=true:=by rw[Zav f];exact hn
  refine wpOp_mono (λa' w' h3=>⟨λ_=>h3.2.1 (by rw[Zav f,Zav E];exact hn),ih (listed.setIfInBounds j true) a' w' u (by rw[Go.getD_set_ne true J];exact hM) (ready_mono hr (Qx aC)) h3.1 I (h3.2.1 (by rw[Zav f,Zav E];exact hn)) ?_⟩) h2;exact FH
theorem Zil{i:Nat}(m:Nat){oi:Oper}{v:Value}{fuel:Nat}{listed:Array Bool}{a:Act}{w:World}(hi:ops[i]?=some oi)
    (hs:Region.noSelect ops=true) (hf:Region.free md ops listed i=true) (hM:listed.getD m true=false) (hr:(Region.ready md ops listed).contains i=true) (hL:Zq8 md ops L i m=true) (hn:Zb4 L listed=true)
    (hy:YieldsIf P ops S oi v a) (hS:S w)
    (h:Zu P md ops (OnlyNormal Q) L S fuel (listed.setIfInBounds i true) (a.put oi.dst v) w):Zu P md ops (OnlyNormal Q) L S (fuel+1) listed a w:=
 Zme hi (Region.noSelect_spec hs) (λ_ _ _ h=>(h:False).elim) hL fuel listed a w (Region.free_spec hi hf) hM (by simpa using hr) hy hn hS h
end
theorem Zla:Sm (((0:Int):Rat)):=⟨Zdt _,by show (1:Nat)<_;rw[show (1000:Nat)=999+1 by rfl,Zbh];have:=Zdt 999;omega⟩
theorem Zfi:Sm 0:=Zla
theorem FL.trip3{w:World}{g:Nat}{t:TypeId}{xn:Bool}{xA:Option Addr}{xk xc:Nat}{xm:Bool}{xB:Option Addr}{xj xd:Nat}{yn:Bool}{yA:Option Addr}{yk yc:Nat}{ym:Bool}{yB:Option Addr}{yj yd:Nat}{zn:Bool}{zA:Option Addr}{zk zc:Nat}{zm:Bool}{zB:Option Addr}{zj zd:Nat}{p q r:Rat}(h:Blk w g t #[.bool xn,.slice xA xk xc,.bool xm,.slice xB xj xd,.bool yn,.slice yA yk yc,.bool ym,.slice yB yj yd,.bool zn,.slice zA zk zc,.bool zm,.slice zB zj zd])(hp:Fr w xn xA xk xc xm xB xj xd p)(hq:Fr w yn yA yk yc ym yB yj yd q)(hr:Fr w zn zA zk zc zm zB zj zd r):FL w (some ⟨g,0,none⟩) 3 3 [p,q,r]:=by
 refine⟨[⟨xn,xA,xk,xc,xm,xB,xj,xd,p⟩,⟨yn,yA,yk,yc,ym,yB,yj,yd,q⟩,⟨zn,zA,zk,zc,zm,zB,zj,zd,r⟩],rfl,Qg _,by unfold maxLen;omega,λe he=>?_,rfl,λ_=>⟨g,0,rfl,λk e hk=>?_⟩⟩
 ·simp only[List.mem_cons,QL,or_false]at he
  rcases he with rfl|rfl|rfl;exact hp;exact hq;exact hr
 match k,hk with
 | 0,hk=>cases hk;exact⟨h.cell 0,h.cell 1,h.cell 2,h.cell 3⟩
 | 1,hk=>cases hk;exact⟨h.cell 4,h.cell 5,h.cell 6,h.cell 7⟩
 | 2,hk=>cases hk;exact⟨h.cell 8,h.cell 9,h.cell 10,h.cell 11⟩
 | k+3,hk=>simp at hk
theorem Zkk(g:Nat)(an am:Bool)(aA aB:Option Addr)(ak ac aj ad:Nat)(r:Rat)(w:World)(hc:Blk w g 70 #[.int .i64 0])(h:Fr w an aA ak ac am aB aj ad r)(sr:Sm r) :
    Calls Tryz.prog 44 #[.agg #[.bool an,.slice aA ak ac,.bool am,.slice aB aj ad],.pointer (some ⟨g,0,none⟩)] w (Ze9 w (0-r)):=by
 have hmx:=Gt;obtain⟨W0,a1,O,⟨q0,q1⟩,s0⟩:=Zcs w 32 #[.bool an,.slice aA ak ac,.bool am,.slice aB aj ad] 32 #[.bool false,.slice none 0 0,.bool false,.slice none 0 0];have hA:=Zb (h.below O);have qc:=Zb (Zc O hc);replace q0:=Zb q0;replace q1:=Zb q1;replace O:=Zb O;clear s0 h hc;go_in;go_wp2_with fail;(try rw[a1]);clear a1;have f:W0.cell? ⟨w.heap.size,0,none⟩=some (.bool an):=q0.out.cell 0;have E:W0.cell? ⟨w.heap.size,1,none⟩=some (.slice aA ak ac):=q0.out.cell 1;have o:W0.cell? ⟨w.heap.size,2,none⟩=some (.bool am):=q0.out.cell 2;have u:W0.cell? ⟨w.heap.size,3,none⟩=some (.slice aB aj ad):=q0.out.cell 3;have I:Below W0.heap.size W0 W0.drew:=Zg (Qd _ _) 1;replace hA:=Zb (hA.out.below I);replace qc:=Gm I qc;replace q0:=Gm I q0;replace q1:=Gm I q1;have a0:=Gn O I;clear O;replace f:=Za I f;replace E:=Za I E;replace o:=Za I o;replace u:=Za I u;clear I;refine Zad [] (λwx=>(wx.cell? ⟨w.heap.size,0,none⟩=some (.bool an))/\(wx.cell? ⟨w.heap.size,1,none⟩=some (.slice aA ak ac))/\(wx.cell? ⟨w.heap.size,2,none⟩=some (.bool am))/\(wx.cell? ⟨w.heap.size,3,none⟩=some (.slice aB aj ad))) hmx ⟨f,E,o,u⟩ (λ_=>?_);refine Zin 1 [1] rfl Gj ⟨f,E,o,u⟩ ?_
 (refine tkA ?_;try simp only[Qf,Zf6,Zfl,Zfx,Gr,Gq,Gp])
 refine tk0 ?_;refine wpAnyL_o 0 λK hK=>?_
 (try rw[Gx Gj]);go_simp;refine(Zg0 0 W0.drew Gi Gi).mono ?_;rintro e w7 ⟨J,zn,zA,zk,zc,zm,zB,zj,zd,rfl,zf⟩;replace hA:=Zb (hA.out.below J);replace qc:=Gm J qc;replace q0:=Gm J q0;replace q1:=Gm J q1;have Y:=Gn a0 J;clear a0;replace f:=Za J f;replace E:=Za J E;replace o:=Za J o;replace u:=Za J u;clear J;refine hK.out _ _ (λ_=>⟨f,E,o,u⟩) ?_;clear hK K
 try simp only[Qf,Zf6,Zfl,Zfx,Gr,Gq,Gp]
 replace zf:=Zb zf;refine wpAnyL_o 2 λK hK=>?_
 (try rw[Gx Gj]);go_simp;refine(Zsv g zn zm an am zA zB aA aB zk zc zj zd ak ac aj ad ((0:Int):Rat) r w7 qc.out zf.out hA.out Zla sr).mono ?_;rintro e w9 ⟨C,yn,yA,yk,yc,ym,yB,yj,yd,rfl,yf⟩;replace hA:=Zb (hA.out.below C);replace qc:=Gm C qc;replace q0:=Gm C q0;replace q1:=Gm C q1;replace zf:=Zb (zf.out.below C);have a2:=Gn Y C;clear Y;replace f:=Za C f;replace E:=Za C E;replace o:=Za C o;replace u:=Za C u;clear C;refine hK.out _ _ (λ_=>⟨f,E,o,u⟩) ?_;clear hK K
 try simp only[Qf,Zf6,Zfl,Zfx,Gr,Gq,Gp]
 replace yf:=Zb yf;obtain⟨z0,z1,z2,z3,z4,z5,z6,z7⟩:=q1.out.four;obtain⟨Z5,hZ,bE,qZ,kZ,bZ,-⟩:=Zm yn yA yk yc ym yB yj yd a2.out (Nat.le_succ _) q1.out;have dW:=Zb (Fr.keep yf.out kZ);have U:=bZ _ _ _ Gk q0.out;have e0:=U.cell 0;have e1:=U.cell 1;have e2:=U.cell 2;have e3:=U.cell 3;obtain⟨r0,r1,r2,r3,-⟩:=qZ.four;refine wpAnyL_o 3 λK hK=>?_;go_simp;(try rw[hZ]);refine hK.out _ _ (λ_=>⟨e0,e1,e2,e3⟩) ?_;clear hK K
 try simp only[Qf,Zf6,Zfl,Zfx,Gr,Gq,Gp]
 refine wpAnyL_fin ?_;replace bE:=Zb bE;clear kZ bZ z0 z1 z2 z3 z4 z5 z6 z7 e0 e1 e2 e3 U f E o u;go_wp2_with fail;(try rw[hZ]);refine bodyPost_ret (v:=.agg #[.bool yn,.slice yA yk yc,.bool ym,.slice yB yj yd]) (by simp[results,Tryz.results44,go_sem,r0,r1,r2,r3]) rfl ?_;exact IL
theorem Zsh(gc gd gm gp:Nat)(an am:Bool)(aA aB:Option Addr)(ak ac aj ad:Nat)(bn bm:Bool)(bA bB:Option Addr)(bk bc bj bd:Nat)(tn tm:Bool)(tA tB:Option Addr)(tk tc tj td:Nat)(X E:Option Addr)(c d:Nat)(qs rs:List Rat)(a b t:Rat)(w:World)
    (hc:Blk w gc 70 #[.int .i64 0]) (hd:Blk w gd 32 #[.bool tn,.slice tA tk tc,.bool tm,.slice tB tj td]) (hm:Blk w gm 87 #[.func (.func 44) #[] #[.pointer (some ⟨gc,0,none⟩)]]) (hp:Blk w gp 27 #[.int .i64 3,.slice X 3 c,.slice E 3 d])
    (hX:FL w X 3 c qs) (hE:FL w E 3 d rs) (ha:Fr w an aA ak ac am aB aj ad a) (hb:Fr w bn bA bk bc bm bB bj bd b) (ht:Fr w tn tA tk tc tm tB tj td t) (t0:t≠0)
    (sa:Sm a) (sb:Sm b) (st:Sm t) (s1:Sm (a/t)) (s2:Sm (b/t)) (s3:Sm (qs[0]?.getD 0)) (s4:Sm (rs[0]?.getD 0)) (s5:Sm (a/t*qs[0]?.getD 0)) (s6:Sm (b/t*rs[0]?.getD 0)) (s7:Sm (a/t*qs[0]?.getD 0+b/t*rs[0]?.getD 0)) :
    Calls Tryz.prog 45 #[.agg #[.bool an,.slice aA ak ac,.bool am,.slice aB aj ad],.agg #[.bool bn,.slice bA bk bc,.bool bm,.slice bB bj bd],.pointer (some ⟨gc,0,none⟩),.pointer (some ⟨gd,0,none⟩),.pointer (some ⟨gm,0,none⟩),.pointer (some ⟨gp,0,none⟩)] w λe w'=>Below w.heap.size w w'/\∃ A' c',e=.returned (.slice A' 3 c')/\FL w' A' 3 c' [0-(a/t*qs[0]?.getD 0+b/t*rs[0]?.getD 0),a/t,b/t]:=by
 have hmx:=Gt;obtain⟨W0,h7,e0,⟨q0,q1⟩,s0⟩:=Zcs w 32 #[.bool an,.slice aA ak ac,.bool am,.slice aB aj ad] 32 #[.bool bn,.slice bA bk bc,.bool bm,.slice bB bj bd];have hA:=Zb (ha.below e0);have hD:=Zb (hb.below e0);have hT:=Zb (ht.below e0);obtain⟨gX,oX,xzn,h5,xzk,xzc,xzm,i1,xzj,xzd,rfl,f6,f8⟩:=hX.at_ (k:=0) Gi;obtain⟨gE,oE,ezn,h3,ezk,ezc,ezm,h1,ezj,ezd,rfl,f7,f5⟩:=hE.at_ (k:=0) Gi;have cX:=hX.cap;have cE:=hE.cap;have qc:=Zb (Zc e0 hc);have qd:=Zb (Zc e0 hd);have lc:=hc.lt;have ld:=hd.lt;have lm:=hm.lt;have lp:=hp.lt;replace q0:=Zb q0;replace q1:=Zb q1;replace e0:=Zb e0;replace f8:=Zb f8;replace f5:=Zb f5;replace f6:=Zb f6;replace f7:=Zb f7;replace hc:=Zb hc;replace hm:=Zb hm;replace hp:=Zb hp;clear s0 ha hb ht hX hE hd;go_in;go_wp2_with fail;(try rw[h7]);clear h7;have d8:W0.cell? ⟨w.heap.size,0,none⟩=some (.bool an):=q0.out.cell 0;have d6:W0.cell? ⟨w.heap.size,1,none⟩=some (.slice aA ak ac):=q0.out.cell 1;have c9:W0.cell? ⟨w.heap.size,2,none⟩=some (.bool am):=q0.out.cell 2;have d3:W0.cell? ⟨w.heap.size,3,none⟩=some (.slice aB aj ad):=q0.out.cell 3;have d5:W0.cell? ⟨(w.heap.size+1),0,none⟩=some (.bool bn):=q1.out.cell 0;have d4:W0.cell? ⟨(w.heap.size+1),1,none⟩=some (.slice bA bk bc):=q1.out.cell 1;have d7:W0.cell? ⟨(w.heap.size+1),2,none⟩=some (.bool bm):=q1.out.cell 2;have d0:W0.cell? ⟨(w.heap.size+1),3,none⟩=some (.slice bB bj bd):=q1.out.cell 3
 have c8:W0.cell? ⟨gd,0,none⟩=some (.bool tn):=qd.out.cell 0;have c1:W0.cell? ⟨gd,1,none⟩=some (.slice tA tk tc):=qd.out.cell 1;have c0:W0.cell? ⟨gd,2,none⟩=some (.bool tm):=qd.out.cell 2;have c2:W0.cell? ⟨gd,3,none⟩=some (.slice tB tj td):=qd.out.cell 3;have b5:Below W0.heap.size W0 W0.drew:=Zg (Qd _ _) 1;replace hA:=Zb (hA.out.below b5);replace hD:=Zb (hD.out.below b5);replace hT:=Zb (hT.out.below b5);replace qc:=Gm b5 qc;replace qd:=Gm b5 qd;replace q0:=Gm b5 q0;replace q1:=Gm b5 q1;have e7:=Gn e0 b5;clear e0;replace d8:=Za b5 d8;replace d6:=Za b5 d6;replace c9:=Za b5 c9;replace d3:=Za b5 d3;replace d5:=Za b5 d5;replace d4:=Za b5 d4;replace d7:=Za b5 d7;replace d0:=Za b5 d0;replace c8:=Za b5 c8;replace c1:=Za b5 c1;replace c0:=Za b5 c0;replace c2:=Za b5 c2;clear b5
 refine Zad [6,7] (λwx=>(wx.cell? ⟨w.heap.size,0,none⟩=some (.bool an))/\(wx.cell? ⟨w.heap.size,1,none⟩=some (.slice aA ak ac))/\(wx.cell? ⟨w.heap.size,2,none⟩=some (.bool am))/\(wx.cell? ⟨w.heap.size,3,none⟩=some (.slice aB aj ad))/\(wx.cell? ⟨(w.heap.size+1),0,none⟩=some (.bool bn))/\(wx.cell? ⟨(w.heap.size+1),1,none⟩=some (.slice bA bk bc))/\(wx.cell? ⟨(w.heap.size+1),2,none⟩=some (.bool bm))/\(wx.cell? ⟨(w.heap.size+1),3,none⟩=some (.slice bB bj bd))/\(wx.cell? ⟨gd,0,none⟩=some (.bool tn))/\(wx.cell? ⟨gd,1,none⟩=some (.slice tA tk tc))/\(wx.cell? ⟨gd,2,none⟩=some (.bool tm))/\(wx.cell? ⟨gd,3,none⟩=some (.slice tB tj td))) hmx ⟨d8,d6,c9,d3,d5,d4,d7,d0,c8,c1,c0,c2⟩ (λ_=>?_);refine Zin 2 [0,1] rfl Gj ⟨d8,d6,c9,d3,d5,d4,d7,d0,c8,c1,c0,c2⟩ ?_
 iterate 2 (refine tkA ?_;try simp only[Qf,Zf6,Zfl,Zfx,Gr,Gq,Gp])
 refine tk0 ?_;refine Zil (i:=3) (v:=?vt4) 5 rfl Gj Gj Gj Gj Gj Gj (Or.inl ⟨by kernel_rfl,?hyt4⟩) ⟨d8,d6,c9,d3,d5,d4,d7,d0,c8,c1,c0,c2⟩ ?rt4
 case hyt4=>(intro W2 hSw;(try dsimp only at hSw);go_simp;try with_reducible rfl)
 try simp only[Qf,Zf6,Zfl,Zfx,Gr,Gq,Gp]
 refine Zil (i:=4) (v:=?vt5) 5 rfl Gj Gj Gj Gj Gj Gj (Or.inl ⟨by kernel_rfl,?hyt5⟩) ⟨d8,d6,c9,d3,d5,d4,d7,d0,c8,c1,c0,c2⟩ ?rt5
 case hyt5=>(intro W2 hSw;(try dsimp only at hSw);go_simp;try with_reducible rfl)
 try simp only[Qf,Zf6,Zfl,Zfx,Gr,Gq,Gp]
 refine wpAnyL_o 2 λK hK=>?_
 (try rw[Gx Gj]);go_simp;refine(Zsm gc an am tn tm aA aB tA tB ak ac aj ad tk tc tj td a t W0.drew qc.out hA.out hT.out sa st t0).mono ?_;rintro e i7 ⟨b9,xn,xA,xk,xc,xm,xB,xj,xd,rfl,xf⟩;replace hA:=Zb (hA.out.below b9);replace hD:=Zb (hD.out.below b9);replace hT:=Zb (hT.out.below b9);replace qc:=Gm b9 qc;replace qd:=Gm b9 qd;replace q0:=Gm b9 q0;replace q1:=Gm b9 q1;have e9:=Gn e7 b9;clear e7;replace d8:=Za b9 d8;replace d6:=Za b9 d6;replace c9:=Za b9 c9;replace d3:=Za b9 d3;replace d5:=Za b9 d5;replace d4:=Za b9 d4;replace d7:=Za b9 d7;replace d0:=Za b9 d0;replace c8:=Za b9 c8;replace c1:=Za b9 c1;replace c0:=Za b9 c0;replace c2:=Za b9 c2;clear b9;refine hK.out _ _ (λ_=>⟨d8,d6,c9,d3,d5,d4,d7,d0,c8,c1,c0,c2⟩) ?_;clear hK K
 try simp only[Qf,Zf6,Zfl,Zfx,Gr,Gq,Gp]
 replace xf:=Zb xf;refine wpAnyL_o 5 λK hK=>?_
 (try rw[Gx Gj]);go_simp;refine(Zsm gc bn bm tn tm bA bB tA tB bk bc bj bd tk tc tj td b t i7 qc.out hD.out hT.out sb st t0).mono ?_;rintro e j1 ⟨b8,yn,yA,yk,yc,ym,yB,yj,yd,rfl,yf⟩;replace hA:=Zb (hA.out.below b8);replace hD:=Zb (hD.out.below b8);replace hT:=Zb (hT.out.below b8);replace qc:=Gm b8 qc;replace qd:=Gm b8 qd;replace q0:=Gm b8 q0;replace q1:=Gm b8 q1;replace xf:=Zb (xf.out.below b8);have g8:=Gn e9 b8;clear e9;replace d8:=Za b8 d8;replace d6:=Za b8 d6;replace c9:=Za b8 c9;replace d3:=Za b8 d3;replace d5:=Za b8 d5;replace d4:=Za b8 d4;replace d7:=Za b8 d7;replace d0:=Za b8 d0;replace c8:=Za b8 c8;replace c1:=Za b8 c1;replace c0:=Za b8 c0;replace c2:=Za b8 c2;clear b8;refine hK.out _ _ (λ_=>⟨d8,d6,c9,d3,d5,d4,d7,d0,c8,c1,c0,c2⟩) ?_;clear hK K
 try simp only[Qf,Zf6,Zfl,Zfx,Gr,Gq,Gp]
 replace yf:=Zb yf;clear d8 d6 c9 d3 d5 d4 d7 d0 c8 c1 c0 c2;obtain⟨z0,z1,z2,z3,z4,z5,z6,z7⟩:=q0.out.four;obtain⟨Y1,h2,g0,h6,g5,i3,-⟩:=Zm xn xA xk xc xm xB xj xd g8.out (Qg _) q0.out;have xY:=Fr.keep xf.out g5;have yY:=Fr.keep yf.out g5;have g6:=i3 _ _ _ Gk q1.out;refine Zr (i:=6) rfl Gj Gj (λK hK=>?_);go_simp;(try rw[h2]);refine hK.out _ _ ?_;clear hK K h2 z0 z1 z2 z3 z4 z5 z6 z7
 try simp only[Qf,Zf6,Zfl,Zfx,Gr,Gq,Gp]
 obtain⟨z0,z1,z2,z3,z4,z5,z6,z7⟩:=g6.four;obtain⟨Y2,i4,c4,c3,g4,h8,-⟩:=Zm yn yA yk yc ym yB yj yd g0 (Nat.le_succ _) g6;have xZ:=Zb (Fr.keep xY g4);have yZ:=Zb (Fr.keep yY g4);have c5:=Zb (h8 _ _ _ Gk h6);refine Zr (i:=7) rfl Gj Gj (λK hK=>?_);go_simp;(try rw[i4]);refine hK.out _ _ ?_;clear hK K i4 z0 z1 z2 z3 z4 z5 z6 z7
 try simp only[Qf,Zf6,Zfl,Zfx,Gr,Gq,Gp]
 replace c3:=Zb c3;replace c4:=Zb c4;clear hA hD hT qc qd q0 q1 xf yf g0 g5 i3 g4 h8 xY yY g6 h6;refine wpAnyL_fin ?_;have qc:=Zb (Zc c4.out hc.out);have qm:=Zb (Zc c4.out hm.out);have qp:=Zb (Zc c4.out hp.out);have c7:=Zb (f8.out.below c4.out);have c6:=Zb (f5.out.below c4.out);have i0:=Zb (f6.out.below c4.out);have h9:=Zb (f7.out.below c4.out);clear hc hm hp f8 f5 f6 f7;have b1:Y2.cell? ⟨w.heap.size,0,none⟩=some (.bool xn):=c5.out.cell 0;have a5:Y2.cell? ⟨w.heap.size,1,none⟩=some (.slice xA xk xc):=c5.out.cell 1;have a2:Y2.cell? ⟨w.heap.size,2,none⟩=some (.bool xm):=c5.out.cell 2;have b0:Y2.cell? ⟨w.heap.size,3,none⟩=some (.slice xB xj xd):=c5.out.cell 3;have a9:Y2.cell? ⟨(w.heap.size+1),0,none⟩=some (.bool yn):=c3.out.cell 0;have a1:Y2.cell? ⟨(w.heap.size+1),1,none⟩=some (.slice yA yk yc):=c3.out.cell 1;have a4:Y2.cell? ⟨(w.heap.size+1),2,none⟩=some (.bool ym):=c3.out.cell 2;have a3:Y2.cell? ⟨(w.heap.size+1),3,none⟩=some (.slice yB yj yd):=c3.out.cell 3;have a7:Y2.cell? ⟨gm,0,none⟩=some (.func (.func 44) #[] #[.pointer (some ⟨gc,0,none⟩)]):=qm.out.cell 0;have a8:Y2.cell? ⟨gp,0,none⟩=some (.int .i64 3):=qp.out.cell 0;have a6:Y2.cell? ⟨gp,1,none⟩=some (.slice (some ⟨gX,oX,none⟩) 3 c):=qp.out.cell 1;have b2:Y2.cell? ⟨gp,2,none⟩=some (.slice (some ⟨gE,oE,none⟩) 3 d):=qp.out.cell 2;obtain⟨u,a0,U,I⟩:=i0.out
 rw[Nat.zero_mul,Nat.add_zero]at u a0 U I;obtain⟨Y,J,O,C⟩:=h9.out;rw[Nat.zero_mul,Nat.add_zero]at Y J O C;clear i0 h9;go_wp2_with fail;have o:Below Y2.heap.size Y2 Y2.drew:=Zg (Qd _ _) 1;replace xZ:=Zb (xZ.out.below o);replace yZ:=Zb (yZ.out.below o);replace c7:=Zb (c7.out.below o);replace c6:=Zb (c6.out.below o);replace qc:=Gm o qc;replace qm:=Gm o qm;replace qp:=Gm o qp;replace c5:=Gm o c5;replace c3:=Gm o c3;have f3:=Gn c4 o;clear c4;replace b1:=Za o b1;replace a5:=Za o a5;replace a2:=Za o a2;replace b0:=Za o b0;replace a9:=Za o a9;replace a1:=Za o a1;replace a4:=Za o a4;replace a3:=Za o a3;replace a7:=Za o a7;replace a8:=Za o a8;replace a6:=Za o a6;replace b2:=Za o b2;replace u:=Za o u;replace a0:=Za o a0;replace U:=Za o U;replace I:=Za o I;replace Y:=Za o Y;replace J:=Za o J;replace O:=Za o O;replace C:=Za o C;clear o
 refine Zad [] (λwx=>(wx.cell? ⟨w.heap.size,0,none⟩=some (.bool xn))/\(wx.cell? ⟨w.heap.size,1,none⟩=some (.slice xA xk xc))/\(wx.cell? ⟨w.heap.size,2,none⟩=some (.bool xm))/\(wx.cell? ⟨w.heap.size,3,none⟩=some (.slice xB xj xd))/\(wx.cell? ⟨(w.heap.size+1),0,none⟩=some (.bool yn))/\(wx.cell? ⟨(w.heap.size+1),1,none⟩=some (.slice yA yk yc))/\(wx.cell? ⟨(w.heap.size+1),2,none⟩=some (.bool ym))/\(wx.cell? ⟨(w.heap.size+1),3,none⟩=some (.slice yB yj yd))/\(wx.cell? ⟨gm,0,none⟩=some (.func (.func 44) #[] #[.pointer (some ⟨gc,0,none⟩)]))/\(wx.cell? ⟨gp,0,none⟩=some (.int .i64 3))/\(wx.cell? ⟨gp,1,none⟩=some (.slice (some ⟨gX,oX,none⟩) 3 c))/\(wx.cell? ⟨gp,2,none⟩=some (.slice (some ⟨gE,oE,none⟩) 3 d))/\(wx.cell? ⟨gX,oX,none⟩=some (.bool xzn))/\(wx.cell? ⟨gX,oX+1,none⟩=some (.slice h5 xzk xzc))/\(wx.cell? ⟨gX,oX+2,none⟩=some (.bool xzm))/\(wx.cell? ⟨gX,oX+3,none⟩=some (.slice i1 xzj xzd))/\(wx.cell? ⟨gE,oE,none⟩=some (.bool ezn))/\(wx.cell? ⟨gE,oE+1,none⟩=some (.slice h3 ezk ezc))/\(wx.cell? ⟨gE,oE+2,none⟩=some (.bool ezm))/\(wx.cell? ⟨gE,oE+3,none⟩=some (.slice h1 ezj ezd))) hmx ⟨b1,a5,a2,b0,a9,a1,a4,a3,a7,a8,a6,b2,u,a0,U,I,Y,J,O,C⟩ (λ_=>?_);refine Zin 13 [0,1,2,3,4,5,7,8,9,10,11,16,17] rfl Gj ⟨b1,a5,a2,b0,a9,a1,a4,a3,a7,a8,a6,b2,u,a0,U,I,Y,J,O,C⟩ ?_
 iterate 13 (refine tkA ?_;try simp only[Qf,Zf6,Zfl,Zfx,Gr,Gq,Gp])
 refine tk0 ?_;refine wpAnyL_o 6 λK hK=>?_
 (try rw[Gx Gj]);go_simp;refine(Zew gc xn xm xzn xzm xA xB h5 i1 xk xc xj xd xzk xzc xzj xzd (a/t) (qs[0]?.getD 0) Y2.drew qc.out xZ.out c7.out s1 s3).mono ?_;rintro e i9 ⟨b7,un,uA,uk,uc,um,uB,uj,ud,rfl,uf⟩;replace xZ:=Zb (xZ.out.below b7);replace yZ:=Zb (yZ.out.below b7);replace c7:=Zb (c7.out.below b7);replace c6:=Zb (c6.out.below b7);replace qc:=Gm b7 qc;replace qm:=Gm b7 qm;replace qp:=Gm b7 qp;replace c5:=Gm b7 c5;replace c3:=Gm b7 c3;have e8:=Gn f3 b7;clear f3;replace b1:=Za b7 b1;replace a5:=Za b7 a5;replace a2:=Za b7 a2;replace b0:=Za b7 b0;replace a9:=Za b7 a9;replace a1:=Za b7 a1;replace a4:=Za b7 a4;replace a3:=Za b7 a3;replace a7:=Za b7 a7;replace a8:=Za b7 a8;replace a6:=Za b7 a6;replace b2:=Za b7 b2;replace u:=Za b7 u;replace a0:=Za b7 a0;replace U:=Za b7 U;replace I:=Za b7 I;replace Y:=Za b7 Y;replace J:=Za b7 J;replace O:=Za b7 O;replace C:=Za b7 C;clear b7;refine hK.out _ _ (λ_=>⟨b1,a5,a2,b0,a9,a1,a4,a3,a7,a8,a6,b2,u,a0,U,I,Y,J,O,C⟩) ?_;clear hK K
 try simp only[Qf,Zf6,Zfl,Zfx,Gr,Gq,Gp]
 replace uf:=Zb uf;refine wpAnyL_o 12 λK hK=>?_
 (try rw[Gx Gj]);go_simp;refine(Zew gc yn ym ezn ezm yA yB h3 h1 yk yc yj yd ezk ezc ezj ezd (b/t) (rs[0]?.getD 0) i9 qc.out yZ.out c6.out s2 s4).mono ?_;rintro e g7 ⟨b6,vn,vA,vk,vc,vm,vB,vj,vd,rfl,vf⟩;replace xZ:=Zb (xZ.out.below b6);replace yZ:=Zb (yZ.out.below b6);replace c7:=Zb (c7.out.below b6);replace c6:=Zb (c6.out.below b6);replace qc:=Gm b6 qc;replace qm:=Gm b6 qm;replace qp:=Gm b6 qp;replace c5:=Gm b6 c5;replace c3:=Gm b6 c3;replace uf:=Zb (uf.out.below b6);have f0:=Gn e8 b6;clear e8;replace b1:=Za b6 b1;replace a5:=Za b6 a5;replace a2:=Za b6 a2;replace b0:=Za b6 b0;replace a9:=Za b6 a9;replace a1:=Za b6 a1;replace a4:=Za b6 a4;replace a3:=Za b6 a3;replace a7:=Za b6 a7;replace a8:=Za b6 a8;replace a6:=Za b6 a6;replace b2:=Za b6 b2;replace u:=Za b6 u;replace a0:=Za b6 a0;replace U:=Za b6 U;replace I:=Za b6 I;replace Y:=Za b6 Y;replace J:=Za b6 J;replace O:=Za b6 O;replace C:=Za b6 C;clear b6;refine hK.out _ _ (λ_=>⟨b1,a5,a2,b0,a9,a1,a4,a3,a7,a8,a6,b2,u,a0,U,I,Y,J,O,C⟩) ?_;clear hK K
 try simp only[Qf,Zf6,Zfl,Zfx,Gr,Gq,Gp]
 replace vf:=Zb vf;obtain⟨i6,e2⟩:=Gz g7.heap.size;obtain⟨i8,f9,d9,h⟩:=Zz (w:=g7) 32 #[.bool un,.slice uA uk uc,.bool um,.slice uB uj ud,.bool vn,.slice vA vk vc,.bool vm,.slice vB vj vd];rw[e2]at d9;refine wpAnyL_o 13 λK hK=>?_
 (try rw[Gx Gj]);go_simp;(try rw[e2]);(try rw[f9]);clear f9;replace xZ:=Zb (xZ.out.below h);replace yZ:=Zb (yZ.out.below h);replace c7:=Zb (c7.out.below h);replace c6:=Zb (c6.out.below h);replace qc:=Gm h qc;replace qm:=Gm h qm;replace qp:=Gm h qp;replace c5:=Gm h c5;replace c3:=Gm h c3;replace uf:=Zb (uf.out.below h);replace vf:=Zb (vf.out.below h);have e5:=Gn f0 h;clear f0;replace b1:=Za h b1;replace a5:=Za h a5;replace a2:=Za h a2;replace b0:=Za h b0;replace a9:=Za h a9;replace a1:=Za h a1;replace a4:=Za h a4;replace a3:=Za h a3;replace a7:=Za h a7;replace a8:=Za h a8;replace a6:=Za h a6;replace b2:=Za h b2;replace u:=Za h u;replace a0:=Za h a0;replace U:=Za h U;replace I:=Za h I;replace Y:=Za h Y;replace J:=Za h J;replace O:=Za h O;replace C:=Za h C;clear h;replace d9:=Zb d9;replace e2:=Zb e2;refine hK.out _ _ (λ_=>⟨b1,a5,a2,b0,a9,a1,a4,a3,a7,a8,a6,b2,u,a0,U,I,Y,J,O,C⟩) ?_;clear hK K
 try simp only[Qf,Zf6,Zfl,Zfx,Gr,Gq,Gp]
 have e1:=Zb (FL.pair2 d9.out uf.out vf.out);replace e1:=Zb e1;refine wpAnyL_o 14 λK hK=>?_
 (try rw[Gx Gj]);go_simp
 refine(Zj3 gc (some ⟨i6,0,none⟩) 2 2 [a/t*qs[0]?.getD 0,b/t*rs[0]?.getD 0] i8 qc.out e1.out Gk (λk hk=>match k,hk with
  | 0,_=>s5
  | 1,_=>s6) (λk hk=>match k,hk with
  | 0,_=>Zfi
  | 1,_=>by show Sm (0+_);rw[QI];exact s5
  | 2,_=>by show Sm (0+_+_);rw[QI];exact s7)).mono ?_
 rintro e h4 ⟨b4,sn,sA,sk,sc,sm,sB,sj,sd,rfl,sf⟩;replace xZ:=Zb (xZ.out.below b4);replace yZ:=Zb (yZ.out.below b4);replace c7:=Zb (c7.out.below b4);replace c6:=Zb (c6.out.below b4);replace qc:=Gm b4 qc;replace qm:=Gm b4 qm;replace qp:=Gm b4 qp;replace c5:=Gm b4 c5;replace c3:=Gm b4 c3;replace uf:=Zb (uf.out.below b4);replace vf:=Zb (vf.out.below b4);replace d9:=Gm b4 d9;replace e1:=Zb (e1.out.below b4);have e4:=Gn e5 b4;clear e5;replace b1:=Za b4 b1;replace a5:=Za b4 a5;replace a2:=Za b4 a2;replace b0:=Za b4 b0;replace a9:=Za b4 a9;replace a1:=Za b4 a1;replace a4:=Za b4 a4;replace a3:=Za b4 a3;replace a7:=Za b4 a7;replace a8:=Za b4 a8;replace a6:=Za b4 a6;replace b2:=Za b4 b2;replace u:=Za b4 u;replace a0:=Za b4 a0;replace U:=Za b4 U;replace I:=Za b4 I;replace Y:=Za b4 Y;replace J:=Za b4 J;replace O:=Za b4 O;replace C:=Za b4 C;clear b4;refine hK.out _ _ (λ_=>⟨b1,a5,a2,b0,a9,a1,a4,a3,a7,a8,a6,b2,u,a0,U,I,Y,J,O,C⟩) ?_;clear hK K
 try simp only[Qf,Zf6,Zfl,Zfx,Gr,Gq,Gp]
 replace sf:Fr h4 sn sA sk sc sm sB sj sd (a/t*qs[0]?.getD 0+b/t*rs[0]?.getD 0):=by have h0:=sf;have e:psQ [a/t*qs[0]?.getD 0,b/t*rs[0]?.getD 0] 2=a/t*qs[0]?.getD 0+b/t*rs[0]?.getD 0:=(by show 0+_+_=_;rw[QI];rfl);rw[e]at h0;exact h0
 replace sf:=Zb sf;refine wpAnyL_o 15 λK hK=>?_
 (try rw[Gx Gj]);go_simp;refine(Zkk gc sn sm sA sB sk sc sj sd (a/t*qs[0]?.getD 0+b/t*rs[0]?.getD 0) h4 qc.out sf.out s7).mono ?_;rintro e g9 ⟨b3,mn,mA,mk,mc,mm,mB,mj,md,rfl,mf⟩;replace xZ:=Zb (xZ.out.below b3);replace yZ:=Zb (yZ.out.below b3);replace c7:=Zb (c7.out.below b3);replace c6:=Zb (c6.out.below b3);replace qc:=Gm b3 qc;replace qm:=Gm b3 qm;replace qp:=Gm b3 qp;replace c5:=Gm b3 c5;replace c3:=Gm b3 c3;replace uf:=Zb (uf.out.below b3);replace vf:=Zb (vf.out.below b3);replace d9:=Gm b3 d9;replace e1:=Zb (e1.out.below b3);replace sf:=Zb (sf.out.below b3);have e6:=Gn e4 b3;clear e4;replace b1:=Za b3 b1;replace a5:=Za b3 a5;replace a2:=Za b3 a2;replace b0:=Za b3 b0;replace a9:=Za b3 a9;replace a1:=Za b3 a1;replace a4:=Za b3 a4;replace a3:=Za b3 a3;replace a7:=Za b3 a7;replace a8:=Za b3 a8;replace a6:=Za b3 a6;replace b2:=Za b3 b2;replace u:=Za b3 u;replace a0:=Za b3 a0;replace U:=Za b3 U;replace I:=Za b3 I;replace Y:=Za b3 Y;replace J:=Za b3 J;replace O:=Za b3 O;replace C:=Za b3 C;clear b3;refine hK.out _ _ (λ_=>⟨b1,a5,a2,b0,a9,a1,a4,a3,a7,a8,a6,b2,u,a0,U,I,Y,J,O,C⟩) ?_;clear hK K
 try simp only[Qf,Zf6,Zfl,Zfx,Gr,Gq,Gp]
 replace mf:=Zb mf;obtain⟨i5,e3⟩:=Gz g9.heap.size;obtain⟨j0,g1,f4,f⟩:=Zz (w:=g9) 32 #[.bool mn,.slice mA mk mc,.bool mm,.slice mB mj md,.bool xn,.slice xA xk xc,.bool xm,.slice xB xj xd,.bool yn,.slice yA yk yc,.bool ym,.slice yB yj yd];rw[e3]at f4;refine wpAnyL_o 18 λK hK=>?_
 (try rw[Gx Gj]);go_simp;(try rw[e3]);(try rw[g1]);clear g1;replace xZ:=Zb (xZ.out.below f);replace yZ:=Zb (yZ.out.below f);replace c7:=Zb (c7.out.below f);replace c6:=Zb (c6.out.below f);replace qc:=Gm f qc;replace qm:=Gm f qm;replace qp:=Gm f qp;replace c5:=Gm f c5;replace c3:=Gm f c3;replace uf:=Zb (uf.out.below f);replace vf:=Zb (vf.out.below f);replace d9:=Gm f d9;replace e1:=Zb (e1.out.below f);replace sf:=Zb (sf.out.below f);replace mf:=Zb (mf.out.below f);have i2:=Gn e6 f;clear e6;replace b1:=Za f b1;replace a5:=Za f a5;replace a2:=Za f a2;replace b0:=Za f b0;replace a9:=Za f a9;replace a1:=Za f a1;replace a4:=Za f a4;replace a3:=Za f a3;replace a7:=Za f a7;replace a8:=Za f a8;replace a6:=Za f a6;replace b2:=Za f b2;replace u:=Za f u;replace a0:=Za f a0;replace U:=Za f U;replace I:=Za f I;replace Y:=Za f Y;replace J:=Za f J;replace O:=Za f O;replace C:=Za f C;clear f;replace f4:=Zb f4;replace e3:=Zb e3;refine hK.out _ _ (λ_=>⟨b1,a5,a2,b0,a9,a1,a4,a3,a7,a8,a6,b2,u,a0,U,I,Y,J,O,C⟩) ?_;clear hK K
 try simp only[Qf,Zf6,Zfl,Zfx,Gr,Gq,Gp]
 have g2:=Zb (FL.trip3 f4.out mf.out xZ.out yZ.out);replace g2:=Zb g2;refine wpAnyL_o 19 λK hK=>?_;go_simp;refine hK.out _ _ (λ_=>⟨b1,a5,a2,b0,a9,a1,a4,a3,a7,a8,a6,b2,u,a0,U,I,Y,J,O,C⟩) ?_;clear hK K
 try simp only[Qf,Zf6,Zfl,Zfx,Gr,Gq,Gp]
 refine wpAnyL_fin ?_;clear b1 a5 a2 b0 a9 a1 a4 a3 a7 a8 a6 b2 u a0 U I Y J O C;go_wp2_with fail;refine bodyPost_ret (v:=.slice (some ⟨i5,0,none⟩) 3 3) (by simp[results,Tryz.results45,go_sem]) rfl ?_;exact⟨i2.out,_,_,rfl,g2.out⟩
