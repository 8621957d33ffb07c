/- Package linear: wider. Solving a triangular system; the -/
import Derived.Lib.SlBuf
import Derived.Lib.AppendZeros
import Derived.Test.YthappeninglakaaGreatZe14
set_option maxRecDepth 100000
set_option maxHeartbeats 8000000
set_option linter.unusedSimpArgs false
set_option linter.unusedVariables false
namespace Go.Proofs.YthappeninglakaaGreat
open Go.RowKit
open List renaming replicate→Qa,length_map→Qc,getElem?_map→Qe,getElem?_append_right→Qf,map_cons→Qh,map_nil→Qi,getElem?_append_left→Qj,length_append→Qk,range→Ql,map_append→Qn,length_replicate→Qo,nil_append→Qp,length_range→Qq,mem_of_getElem?→Qr,append_nil→Qt,getElem?_eq_getElem→Qu,not_mem_nil→Qv,getElem?_range→Qx,mem_singleton→Qz,mem_cons→QA,size_toArray→QB,length_cons→QE,getElem?_replicate→QF,length_nil→QG,getElem?_set_self→QH,getElem?_eq_none→QI,take_append_drop→QJ,getElem?_toArray→QK,set_append_right→QM,length_singleton→QN,append_toArray→QR,set_cons_zero→QS,ext_getElem?→QT,append_assoc→QV,push_toArray→QW,getElem?_set→QX,length→QY,length_take→QZ,cons_append→Ya,range_succ→Yb,nodup_cons→Yc,length_set→Yd,nodup_nil→Yf
open Nat renaming le_refl→Qb,sub_self→Qm,add_sub_cancel'→Qs,min_eq_left→Qw,zero_add→QC,le_trans→QD,min→Ye
open Below renaming refl→Qd
open Act renaming put→Qg
open Kept renaming refl→Qy
open Blk renaming new→QL
open World renaming cell?_of_block→QO
open _root_.Array renaming replicate_succ→QP,replicate_zero→QQ
open Int renaming toNat_natCast→QU
attribute [local go_sem] Zg
theorem Zti(k:Nat):Qa k (Value.slice none 0 0)=Zaq (Qa k Za3):=by
 rw[Zco,List.map_replicate];rfl
theorem Zmj(k:Nat):madeCells (Value.agg #[.bool false,.slice none 0 0,.bool false,.slice none 0 0]).cells (k*4)=Z4 (Qa k Zax):=by
 apply Array.toList_inj.1;show (madeCells #[.bool false,.slice none 0 0,.bool false,.slice none 0 0] (k*4)).toList=Zp (Qa k Zax);apply QT;intro i;by_cases h:i<k*4
 ·have he:(Qa k Zax)[i/4]?=some Zax:=by rw[QF,Gx Gk]
  have hc:=Zfk he;have h4:i%4=0 \/ i%4=1 \/ i%4=2 \/ i%4=3:=Gk
  have hm:(madeCells #[.bool false,.slice none 0 0,.bool false,.slice none 0 0] (k*4)).toList[i]?=some ((#[.bool false,.slice none 0 0,.bool false,.slice none 0 0]:Array Value)[i%4]?.getD default):=by
   unfold madeCells;simp[h]
  rw[hm];rcases h4 with h2|h2|h2|h2;rw[show i/4*4=i by omega]at hc;rw[hc.1,h2];rfl;rw[show i/4*4+1=i by omega]at hc;rw[hc.2.1,h2];rfl;rw[show i/4*4+2=i by omega]at hc;rw[hc.2.2.1,h2];rfl;rw[show i/4*4+3=i by omega]at hc;rw[hc.2.2.2,h2];rfl
 have a1:(Zp (Qa k Zax))[i]?=none:=QI (by rw[Zt];simp;omega);have a2:(madeCells #[.bool false,.slice none 0 0,.bool false,.slice none 0 0] (k*4)).toList[i]?=none:=QI (by unfold madeCells;simp;omega);rw[a1,a2]
theorem Zu7{P:Program}(t e:TypeId){i:TypeInfo}(ht:P.underlying t=some (.slice e))(hi:P.info? e=some i)(hz:i.zero=some (.agg #[.bool false,.slice none 0 0,.bool false,.slice none 0 0]))(hs:i.size=4)(hb:i.bytes=64)
    (x:Int) (n:Nat) (hx:x=n) (hn:n<=1000000000000) (W:World) :
    (Instr.makeSlice t (.int .i64 x) (.int .i64 x)).run P W=.ok (.slice (some ⟨W.heap.size,0,none⟩) n n) (W.alloc (.cells (Z4 (Qa n Zax)) e)):=by
 subst hx;have hr:=run_make (P:=P) W t e i _ ht hi hz .i64 .i64 n n Gk Gk (by rw[hb];omega) Gk;simp only[QU]at hr;rw[hr,hs,Zmj]
theorem Zqq{P:Program}(t e:TypeId){i:TypeInfo}(ht:P.underlying t=some (.slice e))(hi:P.info? e=some i)(hz:i.zero=some (.slice none 0 0))(hs:i.size=1)(hb:i.bytes=24)
    (x:Int) (n:Nat) (hx:x=n) (hn:n<=1000000000000) (W:World) :
    (Instr.makeSlice t (.int .i64 x) (.int .i64 x)).run P W=.ok (.slice (some ⟨W.heap.size,0,none⟩) n n) (W.alloc (.cells (Z6 (Qa n Za3)) e)):=by
 subst hx;have hr:=run_make (P:=P) W t e i _ ht hi hz .i64 .i64 n n Gk Gk (by rw[hb];omega) Gk;simp only[QU]at hr;rw[hr,hs,Nat.mul_one]
 have:madeCells (Value.slice none 0 0).cells n=Z6 (Qa n Za3):=by
  apply Array.toList_inj.1;show (madeCells #[.slice none 0 0] n).toList=Zaq (Qa n Za3);rw[<- Zti];apply QT;intro j;unfold madeCells;by_cases h:j<n;simp[h,Nat.mod_one];simp[h]
 rw[this]
section
variable{P:Program}(w:World)
theorem Zou(dT sT ty elem:TypeId)(i:TypeInfo)(g o dLen dCap:Nat)(a:Addr)(sLen sCap:Nat)(cur:Array Value)(t:TypeId)(cs:List Value)
    (hu:P.underlying dT=some (.slice elem)) (hi:P.info? elem=some i) (hg:w.heap[g]?=some (.cells cur t (0,0))) (hn:cs.length=Ye sLen dLen*i.size)
    (hsrc:∀ j v,cs[j]?=some v->w.cell? (a.add j)=some v) (hfit:o+cs.length<=cur.size) (h1:∀ v ∈ cs,v.oneCell'=true) :
    (Builtin.copy_ #[dT,sT] ty #[.slice (some ⟨g,o,none⟩) dLen dCap,.slice (some a) sLen sCap]).run P w =
     .ok (goInt (Ye sLen dLen)) (w.setRow g (cur.toList.take o++cs++cur.toList.drop (o+cs.length)).toArray):=by
 have hl:=run_loadCells_list (P:=P) w a cs hsrc;have e:=run_storeCells_at P g o t cs 0 cur w hg (by simpa using hfit) h1;simp[Builtin.copy_,run_underlying hu,Builtin.lenOf,Builtin.firstCells,sizeOf,typeInfo,hi,<- hn,hl,e]
theorem Ziw(t ty e:TypeId)(i:TypeInfo)(hu:P.underlying t=some (.slice e))(hi:P.info? e=some i)(hs:i.size=4){tF:TypeId}{g k d dc:Nat}{es:List FE}(hb:Blk w g tF (Z4 es))
    (B:Nat) (A:Option Addr) (m c:Nat) (fs:List FE) (hr:Reads w B 4 A m (Zp fs)) (hm:fs.length=m) (hm0:0<m) (hd:m<=d) (hk:k+m<=es.length) :
    (Builtin.copy_ #[t,t] ty #[.slice (some ⟨g,k*4,none⟩) d dc,.slice A m c]).run P w=.ok (goInt m) (w.setRow g (Z4 (es.take k++fs++es.drop (k+m)))):=by
 obtain⟨ad,rfl,_,hc⟩:=hr.2 hm0;have hl:(Zp fs).length=m*4:=by rw[Zt,hm]
 have:=Zou (P:=P) w t t ty e i g (k*4) d dc ad m c _ tF (Zp fs) hu hi hb (by rw[hl,hs,show Ye m d=m from Qw hd]) hc
  (by rw[hl];show k*4+m*4<=(Z4 es).size;unfold Z4;simp only[QB];rw[Zt];omega) (Zjl fs)
 rw[this,show Ye m d=m from Qw hd];congr 2;unfold Z4
 have e1:Zp (es.take k)=(Zp es).take (k*4):=by
  have h1:Zp es=Zp (es.take k)++Zp (es.drop k):=by rw[<- Zal,QJ]
  have h2:(Zp (es.take k)).length=k*4:=by rw[Zt,QZ,Qw Gk]
  rw[h1,<- h2,List.take_left]
 have e2:Zp (es.drop (k+m))=(Zp es).drop (k*4+m*4):=by
  have h1:Zp es=Zp (es.take (k+m))++Zp (es.drop (k+m)):=by rw[<- Zal,QJ]
  have h2:(Zp (es.take (k+m))).length=k*4+m*4:=by rw[Zt,QZ,Qw Gk];omega
  rw[h1,<- h2,List.drop_left]
 rw[hl,Zal,Zal,e1,e2]
end
theorem Kept.setRow{G:Nat->Prop}{w0 w:World}(h:Kept G w0 w){g:Nat}(hg:G g \/ w0.heap.size<=g)(cs:Array Value):Kept G w0 (w.setRow g cs):=
 ⟨h.os,h.tape,h.output,by simp[World.setRow];exact h.size,λk hk hG=>(setRow_other w g k cs (by rcases hg with hg|hg;exact λe=>hG (e▸hg);omega)).trans (h.block k hk hG)⟩
theorem Zog{w:World}{g:Nat}{t:TypeId}{cs cs':Array Value}(h:Blk w g t cs):Blk (w.setRow g cs') g t cs':=setRow_heap w g _ _ t _ h
theorem Znx{w:World}{g k:Nat}{t:TypeId}{cs cs':Array Value}(h:Blk w k t cs)(hne:k≠g):Blk (w.setRow g cs') k t cs:=(setRow_other w g k _ hne).trans h
theorem FL.readsK{w:World}{A:Option Addr}{n c:Nat}{qs:List Rat}(h:FL w A n c qs){go:Nat}{t:TypeId}{rs:List RS}(hb:Blk w go t (Z6 rs)) :
    ∃ fs:List FE,fs.length=n/\fs.map FE.q=qs/\∀ w',Kept (λk=>k=go) w w'->Reads w' w'.heap.size 4 A n (Zp fs)/\∀ e ∈ fs,e.in_ w':=by
 obtain⟨es,h1,h2,h3,h4,h5,h6⟩:=h;refine⟨es,h1,h5,λw' hk=>?_⟩;have hG:∀ k,k=go->∃ t cs,Blk w k t cs/\NoLimb cs:=λk hk=>⟨t,Z6 rs,by rw[hk];exact hb,Za9 _⟩;refine⟨⟨by rw[Zt,h1],λhn=>?_⟩,λe he=>⟨hk.wd (h4 e he).1 hG,hk.wd (h4 e he).2 hG⟩⟩;obtain⟨g,o,e1,hc⟩:=h6 hn
 have y:g≠go:=λe=>by
  have h0:=(hc 0 es[0] (Qu Gk)).1;rw[e,hb.cell]at h0;unfold Z6 at h0;rw[Zco]at h0;simp only[QK,Qe]at h0;cases hx:rs[o+0*4]? with
  | none=>rw[hx]at h0;cases h0
  | some r=>rw[hx]at h0;cases h0
 have f:∀ (i:Nat) (v:Value),w.cell? ⟨g,i,none⟩=some v->w'.cell? ⟨g,i,none⟩=some v:=λi v hv=>by
  rw[<- hv];exact QO (hk.block g (Zo hv) y)
 refine⟨⟨g,o,none⟩,e1,?_,λj u hu=>?_⟩
 ·have:=(hc 0 es[0] (Qu Gk)).1
  exact Nat.lt_of_lt_of_le (Zo this) hk.size
 rw[Zg]
 have hj:j<es.length*4:=by
  have:=(List.getElem?_eq_some_iff.1 hu).1
  rwa [Zt]at this
 have he:=Qu (show j/4<es.length by omega);have hg:=Zfk he;have hm:=hc (j/4) _ he;have h4:j%4=0 \/ j%4=1 \/ j%4=2 \/ j%4=3:=Gk;rcases h4 with h2|h2|h2|h2;rw[show j/4*4=j by omega]at hg hm;rw[hg.1]at hu;cases hu;exact f _ _ hm.1;rw[show j/4*4+1=j by omega]at hg hm;rw[hg.2.1]at hu;cases hu;exact f _ _ hm.2.1;rw[show j/4*4+2=j by omega]at hg hm;rw[hg.2.2.1]at hu;cases hu;exact f _ _ hm.2.2.1;rw[show j/4*4+3=j by omega]at hg hm;rw[hg.2.2.2]at hu;cases hu;exact f _ _ hm.2.2.2
theorem MatB.mfl{tS tF:TypeId}{w:World}{go n c:Nat}{L:List RF}(h:MatB tS tF w go L)(hl:L.length=n)(hc:n<=c)(hm:c<=maxLen):MFL w (some ⟨go,0,none⟩) n c (L.map RF.q):=by
 refine⟨by rw[Qc,hl],hc,hm,λ_=>⟨go,0,rfl,λk q hq=>?_⟩⟩;rw[Qe]at hq;obtain⟨r,hr,rfl⟩:=Option.map_eq_some_iff.1 hq;have h1:=(h.cell hr).1;obtain⟨h2,h3,h4⟩:=h.row hr;exact⟨_,_,_,by rw[QC];exact h1,h2.fl h3 h4⟩
theorem Zw4(F:FuncId)(cap:Value)(A:Option Addr)(n c m s:Nat)(Q:List (List Rat))(S:Nat->List Rat)(w:World)(h:MFL w A n c Q)(hn9:n<=900)(hm:∀ i,i<n->(Q[i]?.getD []).length=m)(hm0:0<m)(hm9:m<=900)(hs0:0<s)(hs9:s<=900)(hS:∀ i,i<n->(S i).length=s)
    (hcf:∀ (x:Value) (W:World),(callFunc F #[x,cap]).run Tryz.prog W=.ok (.enter F #[x,cap]) W)
    (hF:∀ (W:World) (i:Nat),Below w.heap.size w W->i<n->Calls Tryz.prog F #[.int .i64 i,cap] W λe W'=>∃ A c,e=.returned (.slice A s c)/\Below W.heap.size W W'/\FL W' A s c (S i)) :
    Calls Tryz.prog 83 #[.slice A n c,.func (.func F) #[] #[cap]] w λe w'=>∃ go L,e=.returned (.slice (some ⟨go,0,none⟩) n n)/\Below w.heap.size w w'/\w.heap.size<=go/\L.length=n/\MatB 35 41 w' go L/\L.map RF.q=(Ql n).map λi=>Q[i]?.getD []++S i:=by
 obtain⟨iF,hi,e8,b8,e5⟩:=info_parts Ze0;obtain⟨iS,ki,e7,e9,f3⟩:=info_parts Zko;have hl:=Zb h.1;have f5:=h.2.1;have e1:=h.2.2.1;unfold maxLen at e1;have f4:(35:TypeId)≠41:=Gj;replace hm:=Zb hm;replace h:=Zb h;replace hS:=Zb hS;replace hF:=Zb hF;obtain⟨W0,J⟩:=Gz (w.alloc (.cells (Z6 (Qa n Za3)) 35));obtain⟨go,C⟩:=Gz w.heap.size;have q0:Hid (Blk W0 go 35 (Z6 (Qa n Za3))):=Zb (by rw[<- J,<- C];exact QL _ _ _);have c9:Hid (Below w.heap.size w W0):=Zb (by rw[<- J];exact(Qd _ _).alloc (Qb _) _);have s0:Hid (W0.heap.size=go+1):=Zb (by rw[<- J,<- C];simp);have d7:=Zqq (P:=Tryz.prog) 25 35 Tryz.underlying25 ki e7 e9 f3 (n:Int) n rfl Gk;go_in;go_wp2_with fail;(try rw[J]);(try rw[C]);replace C:=Zb C;clear J d7
 go_loopg [14] n (λk iv wr=>∃ (i:Nat) (L:List RF),i+k=n/\iv=.int .i64 i/\Hid (L.length=i)/\Blk wr go 35 (Z6 (L.map RF.rs++Qa (n-i) Za3))/\Hid (∀ r ∈ L,(FOwn 41 wr r.g r.q/\r.q.length<=r.c/\r.c<=maxLen)/\W0.heap.size<=r.g)/\Hid ((L.map RF.g).Nodup)/\Hid (L.map RF.q=(Ql i).map λi=>Q[i]?.getD []++S i)/\Kept (λk=>k=go) W0 wr)
 case atStart=>exact⟨0,[],by omega,rfl,Zb rfl,q0.out,Zb (λr hr=>(by cases hr)),Zb Yf,Zb rfl,Qy _ _⟩
 case round =>
  obtain⟨i,L,f6,rfl,u,y,f,d8,d9,hK⟩:=hrel;have b7:Below w.heap.size w wr:=c9.out.trans (hK.to_below (λk hk=>by rw[hk,C.out];exact Qb _) c9.out.size);cases gk with
  | zero =>
   obtain rfl:i=n:=Gk;have t1:decide ((i:Int)<(i:Int))=false:=Gh;replace y:=Zb y;go_wp2_with fail;go_ret;refine⟨go,L,rfl,b7,by rw[C.out];exact Qb _,u.out,⟨⟨_,y.out⟩,λr hr=>(f.out r hr).1,?_⟩,d9.out⟩;refine List.nodup_cons.2 ⟨λhmm=>?_,d8.out⟩;obtain⟨r,hr,e⟩:=List.mem_map.1 hmm;have:=(f.out r hr).2;have:=s0.out;omega
  | succ j =>
   obtain rfl:j=n-(i+1):=Gk;have Y:i<n:=Gk;have t1:decide ((i:Int)<(n:Int))=true:=Gv Gk;have bi:(i:Int)<(n:Int):=Gk;obtain⟨ga,oa,A1,n1,c1,rfl,k0,a7⟩:=(h.out.below b7).at_ Y;have e3:n1=m:=by rw[<- a7.len];exact hm.out i Y
   subst e3;replace a7:=Zb a7;replace y:=Zb y;go_wp2_with fail;refine(hF.out wr i b7 Y).mono ?_;rintro e w1 ⟨As,cs,rfl,a3,c8⟩;have o:=Zc a3 y.out;obtain⟨fs,a0,d4,c2⟩:=(a7.out.below a3).readsK o;obtain⟨gs,d3,c5,b4⟩:=c8.readsK o;obtain⟨gN,e4⟩:=Gz w1.heap.size;obtain⟨W2,c3⟩:=Gz (w1.alloc (.cells (Z4 (Qa (n1+s) Zax)) 41));have c0:Below w1.heap.size w1 W2:=by rw[<- c3];exact(Qd _ _).alloc (Qb _) _
   have e0:Blk W2 gN 41 (Z4 (Qa (n1+s) Zax)):=by rw[<- c3,<- e4];exact QL _ _ _
   have I:=Zc c0 o;have c7:=o.lt;have e2:go<gN:=Gk;have x0:=I.cell i;have x1:=I.frozen i;rw[show (Z6 (L.map RF.rs++Qa (n-i) Za3))[i]?=some (.slice none 0 0) from Zb4 (e:=Za3) (by rw[Qf (by rw[Qc,u.out];exact Qb _),Qc,u.out,Qm,QF,Gx Gk])]at x0;have e6:(Q[i]?.getD []++S i).length=n1+s:=by rw[Qk,hm.out i Y,hS.out i Y]
   obtain⟨W3,b6⟩:∃ X,W2.setCell ⟨go,i,none⟩ (.slice (some ⟨gN,0,none⟩) (n1+s) (n1+s))=X:=⟨_,rfl⟩
   have a1:(L.map RF.rs++Qa (n-i) Za3).set i ⟨some ⟨gN,0,none⟩,n1+s,n1+s⟩=(L ++ [RF.mk gN (n1+s) (Q[i]?.getD []++S i)]).map RF.rs++Qa (n-(i+1)) Za3:=by
    rw[QM _ _ (by rw[Qc,u.out];exact Qb _),Qc,u.out,Qm,show n-i=n-(i+1)+1 by omega,List.replicate_succ,QS,Qn,QV];simp only[Qh,Qi,RF.rs,e6];rfl
   have O:Blk W3 go 35 (Z6 ((L ++ [RF.mk gN (n1+s) (Q[i]?.getD []++S i)]).map RF.rs++Qa (n-(i+1)) Za3)):=by
    have:=I.set_ i (.slice (some ⟨gN,0,none⟩) (n1+s) (n1+s));rw[Zds ⟨some ⟨gN,0,none⟩,n1+s,n1+s⟩,b6,a1]at this;exact this
   have a4:Blk W3 gN 41 (Z4 (Qa (n1+s) Zax)):=by rw[<- b6];exact e0.far (by show gN≠go;omega) _
   have b5:Kept (λk=>k=go) w1 W3:=by
    rw[<- b6];exact Kept.set_ (G:=λk=>k=go) (Kept.of_below c0) (p:=⟨go,i,none⟩) (Or.inl rfl) _
   have U:∀ W,Blk W go 35 (Z6 ((L ++ [RF.mk gN (n1+s) (Q[i]?.getD []++S i)]).map RF.rs++Qa (n-(i+1)) Za3))->W.cell? ⟨go,i,none⟩=some (.slice (some ⟨gN,0,none⟩) (n1+s) (n1+s)):=λW hW=>by
    rw[hW.cell];refine Zb4 (e:=⟨some ⟨gN,0,none⟩,n1+s,n1+s⟩) ?_;rw[<- a1,QH (by simp[u.out];omega)]
   have x3:=U W3 O;have b2:=λty=>Ziw (P:=Tryz.prog) W3 35 ty 41 iF Tryz.underlying35 hi b8 a4 W3.heap.size A1 n1 c1 fs (c2 W3 b5).1 a0 hm0 (d:=n1+s) (dc:=n1+s) (k:=0) Gk Gh;rw[Nat.zero_mul,List.take_zero,Qp,QC,List.drop_replicate,Nat.add_sub_cancel_left]at b2;obtain⟨W4,b0⟩:=Gz (W3.setRow gN (Z4 (fs++Qa s Zax)));rw[b0]at b2;have V:Blk W4 gN 41 (Z4 (fs++Qa s Zax)):=by rw[<- b0];exact Zog a4
   have a5:=show Blk W4 go 35 _ by rw[<- b0];exact Znx O Gk
   have b9:Kept (λk=>k=go) w1 W4:=by rw[<- b0];exact b5.setRow (.inr Gk) _
   have x4:=U W4 a5;have b1:=λty=>Ziw (P:=Tryz.prog) W4 35 ty 41 iF Tryz.underlying35 hi b8 V W4.heap.size As s cs gs (b4 W4 b9).1 d3 hs0 (d:=s) (dc:=s) (k:=n1) (Qb _) (by simp[a0]);rw[List.take_left' a0,show n1+s=(fs++Qa s Zax).length by simp[a0],List.drop_length,Qt]at b1;obtain⟨W5,a8⟩:=Gz (W4.setRow gN (Z4 (fs++gs)));rw[a8]at b1;have b3:Blk W5 gN 41 (Z4 (fs++gs)):=by rw[<- a8];exact Zog V
   have T:=show Blk W5 go 35 _ by rw[<- a8];exact Znx a5 Gk
   have a6:Kept (λk=>k=go) w1 W5:=by rw[<- a8];exact b9.setRow (.inr Gk) _
   have d7:=Zu7 (P:=Tryz.prog) 35 41 Tryz.underlying35 hi e8 b8 e5 ((n1:Int)+(s:Int)) (n1+s) Gk Gk;have bx:(i:Int)<(n:Int):=bi
   have d0:FOwn 41 W5 gN (Q[i]?.getD []++S i):=⟨fs++gs,[],by rw[Qt];exact b3,λe he=>by
    rcases List.mem_append.1 he with he|he;exact(c2 W5 a6).2 e he;exact(b4 W5 a6).2 e he,by rw[Qn,d4,c5]⟩
   have d5:∀ k,k=go->∃ t cs,Blk wr k t cs/\NoLimb cs:=λk hk=>⟨_,_,hk▸y.out,Za9 _⟩;have a2:Kept (λk=>k=go) wr W5:=(Kept.of_below a3).trans (a6.mono (λk _ h=>h))
   have a9:Hid (∀ r ∈ L ++ [RF.mk gN (n1+s) (Q[i]?.getD []++S i)],(FOwn 41 W5 r.g r.q/\r.q.length<=r.c/\r.c<=maxLen)/\W0.heap.size<=r.g):=Zb (λr hr=>by
    rcases List.mem_append.1 hr with hr|hr
    ·obtain⟨⟨r1,r2⟩,r3⟩:=f.out r hr
     have:=s0.out;exact⟨⟨r1.keptG a2 Gk d5,r2⟩,r3⟩
    rw[Qz]at hr;subst hr;have h7:=hK.size;have h8:=a3.size;exact⟨⟨d0,by show (Q[i]?.getD []++S i).length<=n1+s;omega,by show n1+s<=maxLen;unfold maxLen;omega⟩,by show W0.heap.size<=gN;omega⟩)
   have d6:Hid (((L ++ [RF.mk gN (n1+s) (Q[i]?.getD []++S i)]).map RF.g).Nodup):=Zb (by
    rw[Qn,List.nodup_append];refine⟨d8.out,by simp,λa ha b hb=>?_⟩;obtain⟨r,hr,rfl⟩:=List.mem_map.1 ha;simp only[Qh,Qi,Qz]at hb;have h6:=(f.out r hr).1.1.lt;have h7:=a3.size;omega)
   have c6:Hid ((L ++ [RF.mk gN (n1+s) (Q[i]?.getD []++S i)]).map RF.q=(Ql (i+1)).map λi=>Q[i]?.getD []++S i):=Zb (by
    rw[Qn,d9.out,Yb,Qn];rfl)
   have f0:Hid (Kept (λk=>k=go) W0 W5):=Zb (hK.trans a2);have c4:Hid ((L ++ [RF.mk gN (n1+s) (Q[i]?.getD []++S i)]).length=i+1):=Zb (by rw[Qk,u.out];rfl);replace T:=Zb T;clear c2 b4 a0 d4 d3 c5 o c0 e0 I a1 O a4 b5 U V a5 b9 b3 a6 d0 d5 a2 c8 c7;go_wp2_with fail
   go_roundg (n-(i+1))
   case measure=>omega
   case rel=>exact⟨i+1,L ++ [RF.mk gN (n1+s) (Q[i]?.getD []++S i)],by omega,by go_num,c4,T.out,a9,d6,c6,f0.out⟩
theorem Zfq(a:Bool)(A:Option Addr)(n c:Nat)(b:Bool)(B:Option Addr)(m d:Nat):NoLimb #[.bool a,.slice A n c,.bool b,.slice B m d]:=λi x=>by
 match i with
 | 0=>simp
 | 1=>simp
 | 2=>simp
 | 3=>simp
 | i+4=>simp
section
variable{tS tF tW tR tI tX tB t:TypeId}{w w' W0:World}{g gn gX gO Bs go2 n c base i:Nat}{A:Option Addr}{L2:List RZ}{L:List RF}{cs:Array Value}{qs part:List Rat}{xs:List Int}{cur:RS}{row:Option Nat}
theorem Zsl{neg:Bool}{A:Option Addr}{n c:Nat}{z:Int}(h:Wd w neg A n c z)(hg:w.grownBy w' row)(hr:∀ r,row=some r->∃ o:Obj,w.heap[r]?=some o/\o.isCells=false):Wd w' neg A n c z:=⟨h.1,h.2.1,Zhj h.2.2 hg hr⟩
theorem Zxu(h:FOwn tF w g qs)(hg:w.grownBy w' row)(hr:∀ r,row=some r->∃ o:Obj,w.heap[r]?=some o/\o.isCells=false):FOwn tF w' g qs:=by
 obtain⟨es,zs,h1,h2,h3⟩:=h;exact⟨es,zs,Zc8 h1 hg hr,λe he=>⟨Zsl (h2 e he).1 hg hr,Zsl (h2 e he).2 hg hr⟩,h3⟩
theorem Zxm(h:POwn tW w g xs)(hg:w.grownBy w' row)(hr:∀ r,row=some r->∃ o:Obj,w.heap[r]?=some o/\o.isCells=false):POwn tW w' g xs:=by
 obtain⟨es,h1,h2,h3⟩:=h;exact⟨es,Zc8 h1 hg hr,λe he=>⟨Zhj (h2 e he).1 hg hr,(h2 e he).2⟩,h3⟩
theorem Zyu(h:MatZ tR tW w go2 L2)(hg:w.grownBy w' row)(hr:∀ r,row=some r->∃ o:Obj,w.heap[r]?=some o/\o.isCells=false):MatZ tR tW w' go2 L2:=by
 obtain⟨⟨zs,h1⟩,h2,h3⟩:=h;exact⟨⟨zs,Zc8 h1 hg hr⟩,λr hr'=>⟨Zxm (h2 r hr').1 hg hr,(h2 r hr').2⟩,h3⟩
theorem Kept.others{G:Nat->Prop}(h:Kept G w w')(hG:∀ k,G k->∃ t cs,Blk w k t cs):KeepsOthers w w':=
 ⟨h.size,λk o hk ho=>(h.block k (Array.getElem?_eq_some_iff.1 hk).1 (λhg=>by
  obtain⟨t,cs,hb⟩:=hG k hg;unfold Blk at hb;rw[hb]at hk;cases hk;exact absurd ho (by simp[Obj.isCells]))).trans hk⟩
def EnvK(tI tX tB tR tW:TypeId)(w:World)(gn gX gO Bs go2 n:Nat)(A:Option Addr)(c:Nat)(L2:List RZ):Prop:=
 Blk w gn tI #[.int .i64 n]/\Blk w gX tX #[.slice (some ⟨gO,0,none⟩) n n]/\Blk w Bs tB #[.slice A n c]/\MatZ tR tW w go2 L2
theorem EnvK.below(h:EnvK tI tX tB tR tW w gn gX gO Bs go2 n A c L2)(hb:Below w.heap.size w w'):EnvK tI tX tB tR tW w' gn gX gO Bs go2 n A c L2:=
 ⟨Zc hb h.1,Zc hb h.2.1,Zc hb h.2.2.1,h.2.2.2.below hb⟩
theorem EnvK.own(h:EnvK tI tX tB tR tW w gn gX gO Bs go2 n A c L2)(hg:w.grownBy w' row)(hr:∀ r,row=some r->∃ o:Obj,w.heap[r]?=some o/\o.isCells=false):EnvK tI tX tB tR tW w' gn gX gO Bs go2 n A c L2:=
 ⟨Zc8 h.1 hg hr,Zc8 h.2.1 hg hr,Zc8 h.2.2.1 hg hr,Zyu h.2.2.2 hg hr⟩
def NoT(tI tX tB tR tW t:TypeId):Prop:=tI≠t/\tX≠t/\tB≠t/\tR≠t/\tW≠t
theorem EnvK.ne(h:EnvK tI tX tB tR tW w gn gX gO Bs go2 n A c L2)(ht:NoT tI tX tB tR tW t)(hb:Blk w g t cs):gn≠g/\gX≠g/\Bs≠g/\go2≠g/\∀ r ∈ L2,r.g≠g:=by
 obtain⟨h1,h2,h3,⟨zs,h4⟩,h5,-⟩:=h;refine⟨λe=>ht.1 ?_,λe=>ht.2.1 ?_,λe=>ht.2.2.1 ?_,λe=>ht.2.2.2.1 ?_,λr hr e=>ht.2.2.2.2 ?_⟩;subst e;exact h1.type hb;subst e;exact h2.type hb;subst e;exact h3.type hb;subst e;exact h4.type hb;obtain⟨es,h6,-,-⟩:=(h5 r hr).1;rw[e]at h6;exact h6.type hb
theorem EnvK.keptG(h:EnvK tI tX tB tR tW w gn gX gO Bs go2 n A c L2)(ht:NoT tI tX tB tR tW t)(hb:Blk w g t cs)(hn:NoLimb cs)(hk:Kept (λk=>k=g) w w'):EnvK tI tX tB tR tW w' gn gX gO Bs go2 n A c L2:=by
 obtain⟨e1,e2,e3,e4,e5⟩:=h.ne ht hb;obtain⟨h1,h2,h3,h4⟩:=h;exact⟨hk.blk h1 e1,hk.blk h2 e2,hk.blk h3 e3,h4.keptG hk e4 e5 (λk hk=>⟨t,cs,hk▸hb,hn⟩)⟩
theorem EnvK.grownT(h:EnvK tI tX tB tR tW w gn gX gO Bs go2 n A c L2)(ht:NoT tI tX tB tR tW t)(hg:w.grownBy w' row)(hr:∀ k,row=some k->∃ cs,Blk w k t cs/\NoLimb cs):EnvK tI tX tB tR tW w' gn gX gO Bs go2 n A c L2:=by
 cases row with
 | none=>exact h.below ⟨hg.os,hg.tape,hg.output,hg.size,λk hk=>hg.block k hk Gh⟩
 | some k =>
  obtain⟨cs,hb,hn⟩:=hr k rfl;exact h.keptG ht hb hn ⟨hg.os,hg.tape,hg.output,hg.size,λj hj hne=>hg.block j hj (by simpa using hne)⟩
theorem EnvK.sl(h:EnvK tI tX tB tR tW w gn gX gO Bs go2 n (some ⟨go2,0,none⟩) c L2)(hl:L2.length=n)(hc:n<=c)(hm:c<=maxLen):SL w (some ⟨go2,0,none⟩) n c (L2.map RZ.rs):=by
 refine⟨by rw[Qc,hl],hc,hm,λ_=>⟨go2,0,rfl,λk e he=>?_⟩⟩;rw[Qe]at he;obtain⟨r,hr,rfl⟩:=Option.map_eq_some_iff.1 he;rw[QC];exact(h.2.2.2.cell hr).1
def OutK(tS tF:TypeId)(w:World)(base gO i:Nat)(L:List RF):Prop:=
 Blk w gO tS (Z6 (Qa i Za3++L.map RF.rs))/\(∀ r ∈ L,(FOwn tF w r.g r.q/\r.q.length<=r.c/\r.c<=maxLen)/\base<=r.g)/\(L.map RF.g).Nodup
theorem OutK.own(h:OutK tS tF w base gO i L)(hg:w.grownBy w' row)(hr:∀ r,row=some r->∃ o:Obj,w.heap[r]?=some o/\o.isCells=false):OutK tS tF w' base gO i L:=
 ⟨Zc8 h.1 hg hr,λr hr'=>⟨⟨Zxu (h.2.1 r hr').1.1 hg hr,(h.2.1 r hr').1.2⟩,(h.2.1 r hr').2⟩,h.2.2⟩
def BunK(tI tX tB tR tW tS tF:TypeId)(gn gX gO Bs go2 n:Nat)(A:Option Addr)(c:Nat)(L2:List RZ)(W0:World)(i:Nat)(cur:RS)(part:List Rat)(L:List RF)(w:World):Prop:=
 EnvK tI tX tB tR tW w gn gX gO Bs go2 n A c L2/\Blk w gO tS (Z6 (Qa i Za3++cur::L.map RF.rs))/\OwnF tF w W0.heap.size cur.val part/\(∀ r ∈ L,FOwn tF w r.g r.q)/\Kept (λk=>k=gO) W0 w
theorem BunK.below(h:BunK tI tX tB tR tW tS tF gn gX gO Bs go2 n A c L2 W0 i cur part L w)(hb:Below w.heap.size w w'):BunK tI tX tB tR tW tS tF gn gX gO Bs go2 n A c L2 W0 i cur part L w':=
 ⟨h.1.below hb,Zc hb h.2.1,h.2.2.1.kept hb,λr hr=>(h.2.2.2.1 r hr).below hb,h.2.2.2.2.below hb⟩
theorem BunK.turn(h:BunK tI tX tB tR tW tS tF gn gX gO Bs go2 n A c L2 W0 i cur part L w)(ht:NoT tI tX tB tR tW tF)(hts:tS≠tF){gs:Nat}(hb:Blk w gs tF cs)(hn:NoLimb cs)(hL:∀ r ∈ L,r.g≠gs)(hc:cur.val.ownBlock≠some gs)(hg:W0.heap.size<=gs)(hk:Kept (λk=>k=gs) w w') :
    BunK tI tX tB tR tW tS tF gn gX gO Bs go2 n A c L2 W0 i cur part L w':=by
 obtain⟨h1,h2,h3,h4,h5⟩:=h;have hG:∀ k,k=gs->∃ t cs,Blk w k t cs/\NoLimb cs:=λk hk=>⟨tF,cs,hk▸hb,hn⟩;exact⟨h1.keptG ht hb hn hk,hk.blk h2 (λe=>hts (by subst e;exact h2.type hb)),h3.keptG hb hn hc hk,λr hr=>(h4 r hr).keptG hk (hL r hr) hG,h5.and hk (λk h1 h2=>by omega)⟩
theorem BunK.app(h:BunK tI tX tB tR tW tS tF gn gX gO Bs go2 n A c L2 W0 i cur part L w)(ht:NoT tI tX tB tR tW tF)(htS:NoT tI tX tB tR tW tS)(hts:tS≠tF)(hL0:∀ r ∈ L,r.g<W0.heap.size){cur':RS}{part':List Rat}
    (hg:w.grownBy w' cur.val.ownBlock) (ho:OwnF tF w' W0.heap.size cur'.val part') (hk:∀ (A:Option Addr) (n c:Nat) (l:List Nat),Lim w A n c l->Lim w' A n c l) :
    BunK tI tX tB tR tW tS tF gn gX gO Bs go2 n A c L2 W0 i cur' part' L (w'.setCell ⟨gO,i,none⟩ cur'.val):=by
 obtain⟨h1,h2,h3,h4,h5⟩:=h;have f:=h3.ownBlk;have e1:=h1.grownT ht hg (λk hk=>by obtain⟨cs,a,b,-⟩:=f k hk;exact⟨cs,a,b⟩)
 have u:cur.val.ownBlock≠some gO:=λe=>by
  obtain⟨cs,a,-,-⟩:=f gO e;exact hts (h2.type a)
 have b2:Blk w' gO tS (Z6 (Qa i Za3++cur::L.map RF.rs)):=(hg.block gO h2.lt (λe=>u e.symm)).trans h2
 have f4:∀ r ∈ L,FOwn tF w' r.g r.q:=λr hr=>(h4 r hr).grown hg (λe=>by
  have:=(f _ e).choose_spec.2.2;have:=hL0 r hr;omega) hk
 have k5:Kept (λk=>k=gO) W0 w':=h5.grownG hg (λk hk=>(f k hk).choose_spec.2.2);have o:=Za9 (Qa i Za3++cur::L.map RF.rs);have kS:Kept (λk=>k=gO) w' (w'.setCell ⟨gO,i,none⟩ cur'.val):=Kept.set_ (G:=λk=>k=gO) (Qy _ _) (p:=⟨gO,i,none⟩) (.inl rfl) _;have hG:∀ k,k=gO->∃ t cs,Blk w' k t cs/\NoLimb cs:=λk hk=>⟨tS,_,hk▸b2,o⟩;refine⟨e1.keptG htS b2 o kS,?_,ho.keptG b2 o (λe=>?_) kS,λr hr=>(f4 r hr).keptG kS (λe=>?_) hG,k5.trans kS⟩
 ·have:=b2.set_ i cur'.val
  rw[show cur'.val=.slice cur'.A cur'.n cur'.c from rfl,Zds cur']at this;rw[QM _ _ Gh,Qo,Qm,QS]at this;exact this
 ·obtain⟨cs,a,-,-⟩:=ho.ownBlk gO e
  exact hts (b2.type a)
 obtain⟨es,zs,a,-,-⟩:=f4 r hr;rw[e]at a;exact hts (b2.type a)
theorem BunK.out(h:BunK tI tX tB tR tW tS tF gn gX gO Bs go2 n A c L2 W0 i cur part L w)(hp:part ≠ [])(hO:OutK tS tF W0 base gO (i+1) L)(hb:base<=W0.heap.size):∃ r:RF,r.q=part/\OutK tS tF w base gO i (r::L):=by
 obtain⟨h1,h2,h3,h4,h5⟩:=h;rcases h3.fown with ⟨e,e2⟩|⟨g,cc,e,hg,u,o,hF⟩;exact absurd e2 hp
 have f:cur=⟨some ⟨g,0,none⟩,part.length,cc⟩:=by
   obtain⟨a,b,d⟩:=cur;simp only[RS.val,Value.slice.injEq]at e;obtain⟨rfl,rfl,rfl⟩:=e;rfl
 subst f;refine⟨⟨g,cc,part⟩,rfl,h2,λr hr=>?_,?_⟩
 ·rcases List.mem_cons.1 hr with rfl|hr
  exact⟨⟨hF,u,o⟩,QD hb hg⟩;exact⟨⟨h4 r hr,(hO.2.1 r hr).1.2⟩,(hO.2.1 r hr).2⟩
 rw[Qh,Yc];refine⟨λhm=>?_,hO.2.2⟩;obtain⟨r,hr,e⟩:=List.mem_map.1 hm;have h1:=(hO.2.1 r hr).1.1.lt;have h2:g=r.g:=e.symm;omega
end
open Go.RowKit Go.Shelf
attribute [local go_sem] Oper.semAt_some
theorem FG{G:Prop}(h:G:=by
 have h:=Rat.num_divInt_den ((z:Int):Rat);rw[Rat.num_intCast,Rat.den_intCast]at h;exact h):G:=h
theorem Zfh(z:Int):Rat.divInt z 1=(z:Rat):=by
 exact FG
def Zbm(B0:Nat)(q:Rat)(fr ca mv x0 x1 al as_:Nat)(i:Nat)(v:Value)(w:World):Prop:=
 if i=fr then ∃ A n c,v=.agg #[.bool false,.slice A n c]/\Wd w false A n c 1 else Zav B0 q ca mv x0 x1 al as_ i v w
theorem Zhv{B0:Nat}{q:Rat}{fr ca mv x0 x1 al as_ i:Nat}{v:Value}{w w':World}(hb:Below w.heap.size w w')(h:Zbm B0 q fr ca mv x0 x1 al as_ i v w):Zbm B0 q fr ca mv x0 x1 al as_ i v w':=by
 unfold Zbm at h ⊢
 split at h
 ·rename_i h1;rw[Gx h1]
  obtain⟨A,n,c,e,hf⟩:=h;exact⟨A,n,c,e,hf.below hb⟩
 rename_i h1;rw[Gw h1];exact Zhm hb h
theorem Zkv{C m:Nat}:∀ (f c r:Nat) (Z:List (List Int)) (ng:Bool) (last:Int),okZ C m f c r Z last->BdZ C m (Zap f c r Z ng last).1
 | 0,_,_,_,_,_,h=>h.1
 | f+1,c,r,Z,ng,last,h=>by
  by_cases h0:r=Z.length;rw[Zn1 h0];exact(Zzj h).1;obtain⟨q,hq⟩:∃ q,Zbo (λi=>Zaf Z i c == 0) Z.length Z.length r=q:=⟨_,rfl⟩;by_cases hn:q=Z.length;rw[Zmu h0 hq hn];exact Zkv f _ _ _ _ _ (Zs3 h h0 hq hn);rw[Zna h0 hq hn];exact Zkv f _ _ _ _ _ (Zs0 h h0 hq hn)
theorem Zw9{X:Nat->Nat->Rat}{n m k:Nat}(h:k<n):(Zjx X n m).drop (n-(k+1))=((Ql (m-n)).map λc=>X (n-1-k) (n+c))::(Zjx X n m).drop (n-k):=by
 unfold Zjx;have hl:n-(k+1)<((Ql n).map λi=>(Ql (m-n)).map λc=>X i (n+c)).length:=by rw[Qc,Qq];omega
 rw[List.drop_eq_getElem_cons hl,show n-(k+1)+1=n-k by omega];congr 1;rw[List.getElem_map,List.getElem_range,show n-(k+1)=n-1-k by omega]
theorem Zzs{X:Nat->Nat->Rat}{n m j t:Nat}(hj:j<n)(ht:t<m-n){L:List RF}{i:Nat}(hL:L.map RF.q=(Zjx X n m).drop (i+1))(hij:i<j){y:RF}(hy:L[j-(i+1)]?=some y):y.q.length=m-n/\y.q[t]?.getD 0=X j (n+t):=by
 have h1:(L.map RF.q)[j-(i+1)]?=some y.q:=by rw[Qe,hy];rfl
 rw[hL,List.getElem?_drop,show i+1+(j-(i+1))=j by omega]at h1;unfold Zjx at h1;rw[Qe,Qx hj]at h1;simp only[Option.map_some,Option.some.injEq]at h1;rw[<- h1];refine⟨by simp,?_⟩;rw[Qe,Qx ht];rfl
theorem Cp{G:Prop}(h:G:=by
 obtain⟨A,c,e,-⟩:=aY.fl;exact⟨_,_,_,e⟩):G:=h
theorem Cu{G:Prop}(h:G:=by
 rcases hk with rfl|hk;exact fu;obtain⟨s,hs,rfl⟩:=List.mem_map.1 hk;exact fv s hs):G:=h
theorem Fv{G:Prop}(h:G:=by
 rintro e w5 ⟨ao,bZ,A5,k5,c5,eo,B5,m5,d5,rfl,av⟩;rw[Zfh]at av;exact hK.out _ _ ⟨_,rfl,(by simp only[Zbm,Zav];exact⟨_,_,_,_,_,_,_,_,rfl,av⟩),ao,trivial⟩):G:=h
theorem EC{G:Prop}(h:G:=by
 intro ν wx hb hP;refine Zm (i:=9) rfl (λK hK=>?_);go_simp;exact hK.out _ _ ⟨_,rfl,(by simp only[Zbm,Zav];exact⟨_,rfl,hb.size,Blk.new _ _ _⟩),(Below.refl _ _).alloc (Nat.le_refl _) _,trivial⟩):G:=h
theorem EM{G:Prop}(h:G:=by
 simp only[Zbm,Zav]at h0;obtain⟨bZ,A5,k5,c5,eo,B5,m5,d5,hν,av⟩:=h0;rw[hν];refine Zm (i:=7) rfl (λK hK=>?_);go_simp;exact hK.out _ _ ⟨_,rfl,(by simp only[Zbm,Zav];exact⟨_,_,_,_,_,_,_,_,rfl,av⟩),Below.refl _ _,trivial⟩):G:=h
theorem EU{G:Prop}(h:G:=by
 intro ν wx hb hP;refine Zm (i:=4) rfl (λK hK=>?_);go_simp;refine(Zbz 1 wx Gj Gj).mono ?_;rintro e w5 ⟨ao,d0,D0,e0,f0,rfl,hN⟩;obtain rfl:d0=false:=hN.1;exact hK.out _ _ ⟨_,rfl,(by simp only[Zbm];exact⟨_,_,_,rfl,hN⟩),ao,trivial⟩):G:=h
theorem Ed{G:Prop}(h:G:=by
 simp only[Zbm,Zav]at h0;obtain⟨bZ,A5,k5,c5,eo,B5,m5,d5,hν,av⟩:=h0;rw[hν];refine Zm (i:=6) rfl (λK hK=>?_);go_simp;refine hK.out _ _ ⟨_,rfl,(by simp only[Zbm,Zav];exact⟨_,_,_,_,_,_,_,_,rfl,av⟩),Below.refl _ _,?_⟩;exact⟨_,.int .i64 0,rfl,Or.inl ⟨by kernel_rfl,λW2 _=>by go_simp⟩,by simp[Zbm,Zav],trivial⟩):G:=h
theorem Zzt(A:Option Addr)(n c m:Nat)(Q:List (List Rat))(w:World)(h:MFL w A n c Q)(hn0:0<n)(hn9:n<=900)(hnm:n<m)(hm9:m<=900)(hm:∀ i,i<n->(Q[i]?.getD []).length=m)(i4:okZ (pw 200) m n 0 0 (Z7 Q) 1)(hfin:Zr9 Q n m)(hrk:(Zap n 0 0 (Z7 Q) false 1).2.1=n)
    (X:Nat->Nat->Rat) (hX:Zhc (λi j=>(Zaf (Zap n 0 0 (Z7 Q) false 1).1 i j:Rat)) X n m) :
    Calls Tryz.prog 82 #[.slice A n c,.int .i64 n] w λe w'=>∃ gO L,e=.returned (.tuple #[.slice (some ⟨gO,0,none⟩) n n,.bool true])/\Below w.heap.size w w'/\w.heap.size<=gO/\MatB 35 41 w' gO L/\L.map RF.q=Zjx X n m/\∀ r ∈ L,w.heap.size<=r.g:=by
 have hmx:=Gt;have u9:(150:TypeId)≠39:=Gj;have g2:(35:TypeId)≠41:=Gj;have l6:Hid (NoT 3 25 149 150 39 41):=Zb (by unfold NoT;decide);have z5:Hid (NoT 3 25 149 150 39 35):=Zb (by unfold NoT;decide);obtain⟨iF,hi,y8,A1,x6⟩:=info_parts Ze0;obtain⟨iS,ki,x8,w0,y4⟩:=info_parts Zko;have v5:=Zb h.1;obtain⟨W0,x5,g5,q0,s0⟩:=Zan w 3 #[.int .i64 n];replace h:=h.below g5;obtain⟨FIN,e5⟩:=Gz (Zap n 0 0 (Z7 Q) false 1);rw[e5]at hrk hX;obtain⟨E',rk,ng,la⟩:=FIN;have u5:rk=n:=hrk;subst u5;replace hX:Zhc (λi j=>(Zaf E' i j:Rat)) X rk m:=hX;obtain⟨n,hn⟩:∃ n,n=rk:=⟨_,rfl⟩;subst hn;replace e5:=Zb e5;replace i4:=Zb i4;replace hX:=Zb hX;refine(callsIn_wide (n:=9)).1 ?_;refine callsIn_of_wp_marks Tryz.func82 rfl trivial ?_ rfl;simp only[Tryz.ntmps82,QB,QE,QG,Nat.reduceAdd,Nat.reduceSub,QP,QQ,QW,QR,Qp,Ya];refine wpIn_wide.2 ?_;go_wp2_with fail;refine(Zpz A n c m Q W0 h hn9 hm Gk hm9 hfin.1 hfin.2).mono ?_;rintro e w1 ⟨v,vb,L,rfl,i3,hM,hq,hP,k4⟩;obtain⟨vA,vc,rfl,q5,u4,-⟩:=hP.poly_at;rw[Qc,Qq]at q5 hP k4 ⊢;unfold maxLen at u4;have d8:=congrArg QY hq;rw[Qc]at d8;unfold Z7 at d8;rw[Qc,v5.out]at d8;obtain⟨go,cap,rfl,i9,p0,fu,m4,fv⟩:=hM.mat u9 (λe=>by rw[e]at d8;simp at d8;omega);rw[d8]at i9 ⊢;obtain⟨g3,l9⟩:=Gz w1.heap.size
 obtain⟨V,hV,c9,qv,kW,kB,sV⟩:=Zs 152 #[.slice (some ⟨go,0,none⟩) n cap,.slice vA n vc] (Qd w1.heap.size w1) (Qb _);have r7:=m4.below c9;have g9:=(Zc i3 q0).below c9 (Zc i3 q0).lt;rw[l9]at qv;obtain⟨x0,x1,-,-⟩:=qv.two;have nV:=g9.cell 0;simp at nV;replace d8:=Zb d8;have q1:Hid (w.heap.size<W0.heap.size):=Zb Gk;have h7:Hid (Below W0.heap.size W0 V):=Zb (Gs i3 c9)
 have e3:∀ k,(k=go \/ k ∈ L.map RZ.g)->W0.heap.size<=k:=λk hk=>by
  exact Cu
 have g1:∀ k,(k=go \/ k ∈ L.map RZ.g)->k<g3:=λk hk=>by
  obtain⟨t,cs,hb,-⟩:=m4.boxes k hk;rw[<- l9];exact hb.lt
 replace e3:=Zb e3;replace g1:=Zb g1;replace qv:=Zb qv;replace g9:=Zb g9;clear hM m4 kW kB sV k4 hP h x5 fu fv q0 i3 c9;go_wp2_with fail;(try rw[l9]);(try rw[hV]);refine(Ziv go n cap L (.slice vA n vc) m n V r7 d8.out hn0 hn9 i9 p0 Gk hm9 (by rw[hq];exact i4.out)).mono ?_;rw[hq,e5.out];rintro e w2 ⟨L2,ln,lA,lk,lc,rfl,y3,l2,-,g0,q7,i8⟩;replace g0:L2.map RZ.q=E':=g0;clear hV x0 x1 nV;have l1:¬ (g3=go \/ g3 ∈ L.map RZ.g):=λh=>by have:=g1.out g3 h;omega
 have q3:=i8.blk qv.out l1;have l3:=i8.blk g9.out (λh=>by have:=e3.out _ h;have:=q1.out;omega);have m1:Below W0.heap.size W0 w2:=h7.out.trans (i8.to_below e3.out h7.out.size);obtain⟨g6,x7⟩:=Gz w2.heap.size;obtain⟨V2,x9,e4,v8,kW,kB,sV⟩:=Zs 39 #[.bool ln,.slice lA lk lc] (Qd w2.heap.size w2) (Qb _);have b7:=q3.below e4 q3.lt;have b8:=l3.below e4 l3.lt;have h6:=q7.below e4;have e9:=Zb (Gs m1 e4);obtain⟨y0,y1,-,-⟩:=b7.two;have z9:=b8.cell 0;simp at z9;have t1:decide ((n:Int)<(n:Int))=false:=Gh;obtain⟨gO,o3⟩:=Gz V2.heap.size;obtain⟨V3,n0⟩:=Gz (V2.alloc (.cells (Z6 (Qa n Za3)) 35));have b4:Below V2.heap.size V2 V3:=by rw[<- n0];exact(Qd _ _).alloc (Qb _) _
 have l5:Blk V3 gO 35 (Z6 (Qa n Za3)):=by rw[<- n0,<- o3];exact QL _ _ _
 obtain⟨gX,r8⟩:=Gz V3.heap.size;obtain⟨V4,z8,f5,l4,-,-,s4⟩:=Zs 25 #[.slice (some ⟨gO,0,none⟩) n n] (Qd V3.heap.size V3) (Qb _);rw[r8]at l4;have w6:=Zqq (P:=Tryz.prog) 25 35 Tryz.underlying25 ki x8 w0 y4 (n:Int) n rfl Gk V2;rw[n0,o3]at w6;have k9:=(b7.below b4 b7.lt).below f5 (b7.below b4 b7.lt).lt;have i0:=(b8.below b4 b8.lt).below f5 (b8.below b4 b8.lt).lt;have k7:=(h6.below b4).below f5;have q8:=l5.below f5 l5.lt;obtain⟨z0,z1,-,-⟩:=k9.two;have z3:=i0.cell 0;simp at z3;have bc:(n:Int)<=(cap:Int):=Gk;obtain⟨gB,u8⟩:=Gz V4.heap.size;obtain⟨V5,l8⟩:∃ Y,V4.alloc (.cells #[.slice (some ⟨go,0,none⟩) n cap] 149)=Y:=⟨_,rfl⟩;have ao:Below V4.heap.size V4 V5:=by rw[<- l8];exact(Qd _ _).alloc (Qb _) _
 have g8:EnvK 3 25 149 150 39 V5 w.heap.size gX gO gB go n (some ⟨go,0,none⟩) cap L2:=⟨Zc ao i0,Zc ao l4,by rw[<- l8,<- u8];exact QL _ _ _,k7.below ao⟩;have o1:OutK 35 41 V5 W0.heap.size gO n []:=⟨by rw[Qi,Qt];exact Zc ao q8,λr hr=>(by cases hr),Yf⟩
 have J:Below W0.heap.size W0 V5:=by
  have hs:=e9.out.size;exact e9.out.trans (((Gs b4 f5).trans (ao.mono (Gs b4 f5).size)).mono hs)
 have w7:W0.heap.size<=gO:=by rw[<- o3];exact e9.out.size
 replace g8:=Zb g8;replace o1:=Zb o1;replace J:=Zb J;replace h6:=Zb h6;clear r7 i8 m1 y3 q3 l3 kW kB sV e3 g1 e4 k7 b4 f5 ao l5 q8 b7 b8 q7 l4 v8 k9 i0 l1 g9 qv h7;go_wp2_with fail;(try rw[x7]);(try rw[x9]);(try rw[r8]);(try rw[z8]);refine(Zyt (some ⟨go,0,none⟩) n cap V4).mono ?_;rintro e w5 ⟨rfl,p8⟩;rw[l8]at p8;subst p8;rw[u8];go_wp2_with fail;refine(wpIn_wide (n:=9)).1 ?_
 refine Zoa Gk (gf:=177) (lb:=#[.pointer (some ⟨gB,0,none⟩)]) rfl (enters_of Tryz.func177 Gi rfl)
  (Zy5 8 Gk gB n cap (some ⟨go,0,none⟩) (L2.map RZ.rs) V5 (by rw[g8.out.2.2.1.cell];rfl) (g8.out.sl l2 i9 p0)) KpR.trans (λW l o o' _ h hc _=>KpR.put W l o o' h hc) (Qd _ _) (λ_=>rfl)
  (λk W=>(EnvK 3 25 149 150 39 W w.heap.size gX gO gB go n (some ⟨go,0,none⟩) cap L2/\∃ L:List RF,L.length=k/\L.map RF.q=(Zjx X n m).drop (n-k)/\OutK 35 41 W W0.heap.size gO (n-k) L)/\Below W0.heap.size W0 W)
  (OwnFrom.and (λk W W' row hs hg hr=>by
   obtain⟨h1,L,h2,h3,h4⟩:=hs;exact⟨h1.own hg (λr e=>(hr r e).2),L,h2,h3,h4.own hg (λr e=>(hr r e).2)⟩) (ownFrom_below (Qb _) J.out.size))
  ⟨⟨g8.out,[],rfl,by rw[Qi,Nat.sub_zero,List.drop_eq_nil_of_le];unfold Zjx;rw[Qc,Qq];exact Qb _,o1.out⟩,J.out⟩
  ?a1 ?assign ?body ?done
 case assign =>
  intro l k W K hk hK;dsimp only[Zny]
  gi_wp2
  exact hK
 case body =>
  intro l k W hk hI;obtain⟨⟨hE,L,t5,g7,hO⟩,g4⟩:=hI;obtain⟨i,n8⟩:=Gz (n-1-k);have q6:i<n:=Gk;obtain⟨x,hx⟩:=Zb0 (L:=L2) (i:=i) Gk;have n2:rsAt (L2.map RZ.rs) i=x.rs:=by unfold rsAt;rw[Qe,hx];rfl
  have j2:x.q.length=m:=by
   have h1:=(Zkv n 0 0 (Z7 Q) false 1 i4.out).1;rw[e5.out]at h1;have h2:E'[i]?=some x.q:=by rw[<- g0,Qe,hx];rfl
   have h3:=h1 i (List.getElem?_eq_some_iff.1 h2).1;rw[h2]at h3;exact h3
  (try dsimp only);rw[n8,n2];dsimp only[RS.val,RZ.rs];rw[j2];rw[show n-k=i+1 by omega]at hO g7
  have y6:n-(k+1)=i:=Gk;have u7:Hid (∀ r ∈ L,r.g<W.heap.size):=Zb (λr hr=>(hO.2.1 r hr).1.1.lt);have q2:W0.heap.size<=W.heap.size:=g4.size
  have j7:Hid (BunK 3 25 149 150 39 35 41 w.heap.size gX gO gB go n (some ⟨go,0,none⟩) cap L2 W i Za3 [] L W):=Zb ⟨hE,by
      have h1:=hO.1;rw[List.replicate_succ',QV]at h1;exact h1,OwnF.nil _ _ _,λr hr=>(hO.2.1 r hr).1.1,Qy _ _⟩
  obtain⟨d1,d2,d3,d4,d5⟩:=hX.out;replace d1:=Zb d1;replace d2:=Zb d2;replace d3:=Zb d3;replace d4:=Zb d4;replace d5:=Zb d5
  have e8:Hid (∀ j,x.q[j]?.getD 0=Zaf E' i j):=Zb (λj=>by
   rw[<- g0];unfold Zaf;rw[Qe,hx];rfl)
  have nW:=hE.1.cell 0;simp at nW;replace hO:=Zb hO;replace hE:=Zb hE;replace g7:=Zb g7;replace g4:=Zb g4;replace n8:=Zb n8;replace n2:=Zb n2
  gi_wp2_with fail
  clear nW
  gi_loopw [13] (λkv wr=>∃ (t:Nat) (cur:RS),kv=.int .i64 ((n:Int)+(t:Int))/\t<=m-n/\BunK 3 25 149 150 39 35 41 w.heap.size gX gO gB go n (some ⟨go,0,none⟩) cap L2 W i cur ((Ql t).map λc=>X i (n+c)) L wr) (λkv _=>(m-intOf kv).toNat)
  case atStart=>exact⟨0,Za3,by go_num,Nat.zero_le _,j7.out⟩
  case round =>
   clear j7;obtain⟨t,cur,rfl,C1,a9⟩:=hrel;by_cases hlt:t<m-n
   ·skip
    have t2:decide ((n:Int)+(t:Int)<(m:Int))=true:=Gv Gk;have bnt:(0:Int)<=(n:Int)+(t:Int):=Gk;have bnm:(n:Int)+(t:Int)<(m:Int):=Gk;obtain⟨zn,zA,zk,zc,c0,c1,hz⟩:=(a9.1.2.2.2.row hx).1.at_ (i:=n+t) (by rw[j2];omega);rw[e8.out]at hz;have nc:=a9.1.1.cell 0;simp at nc;have e1:((n:Int)+(t:Int)).toNat=n+t:=Gk;replace a9:=Zb a9
    gi_wp2_with fail
    have I:Hid (∀ wx,Below wr.heap.size wr wx->wx.cell? ⟨x.g,(n+t)*2,none⟩=some (.bool zn)/\wx.cell? ⟨x.g,(n+t)*2+1,none⟩=some (.slice zA zk zc)):=Zb (λwx u=>⟨Za u c0,Za u c1⟩);have O:Below wr.heap.size wr wr.drew:=Zf (Qd _ _) 1;refine Zxs [] hmx Gi I O (λhxs=>?_);refine Zj9 4 [0,1,2,3] rfl Gi (I.out _ O) ?_
    iterate 4 (refine tkA ?_;try simp only[Qg,Zhb,Zgo,Zg6,Gr,Gq,Gp])
    refine tk0 ?_;refine Za1 [(4,56),(5,57),(6,51),(7,58),(9,14)] (λi=>match i with|6=>[8]|_=>[]) [(4,56),(5,57),(6,51),(8,59),(7,58),(9,14)] (Zbm wr.heap.size ((Zaf E' i (n+t)):Rat) 4 5 6 7 8 9 8) 2 Gi (λ_ _ _ _ _ hb h=>Zhv hb h) (λwx h=>I.out _ (Gs O h)) ?hop1 ?hfin1
    case hop1 =>
     intro p hp;simp only[QA,Qv,or_false]at hp;simp only[Qh,Qi,Zam,Qg,Zhb,Zgo,Zg6];rcases hp with rfl|rfl|rfl|rfl|rfl;exact EU
     ·intro ν wx hb hP
      have u:=Gs O hb;have h0:=hP (4,56) Gh Gi;simp only[Zbm]at h0;obtain⟨D0,e0,f0,hν,hN⟩:=h0;rw[hν];refine Zm (i:=5) rfl (λK hK=>?_);go_simp;refine(Zgj zn zA D0 zk zc e0 f0 (Zaf E' i (n+t)) 1 wx (hz.below u) hN Gj).mono ?_;exact Fv
     ·intro ν wx hb hP
      have h0:=hP (5,57) Gh Gi;exact Ed
     ·intro ν wx hb hP
      have h0:=hP (6,51) Gh Gi;exact EM
     exact EC
    case hfin1 =>
     intro ν wx hb hP;have h9:=hP (4,56) Gh;have h0:=hP (5,57) Gh;have h1:=hP (6,51) Gh;have h2:=hP (7,58) Gh;have h3:=hP (8,59) Gh;have h4:=hP (9,14) Gh;simp only[Zbm,Zav]at h9 h0 h1 h2 h4;obtain⟨y0,y1,y2,h9,-⟩:=h9;obtain⟨a0,a1,a2,a3,a4,a5,a6,a7,h0,-⟩:=h0;obtain⟨n5,p1,o8,p4,m0,n4,o4,p3,h1,-⟩:=h1;obtain⟨ssn,m8,ssk,ssc,ssm,o6,ssj,ssd,h2,ssf⟩:=h2;obtain⟨gss,h4,kv,qv⟩:=h4;simp only[Qh,Qi,Zam,Qg,Zhb,Zgo,Zg6];rw[h9,h0,h1,h2,(show ν 59=Value.int .i64 0 by simpa [Zbm,Zav]using h3),h4];clear h9 h0 h1 h2 h3 h4 hP ν;have u:=Gs O hb;have C:=qv.four;have b0:wr.heap.size<=gss:=kv;refine(Zaa ssn m8 ssk ssc ssm o6 ssj ssd u b0 qv).elim (λZss hq=>?_);have c0:=C.1;have f4:=C.2.1;have e7:=C.2.2.1;have c3:=C.2.2.2.1;have f0:=C.2.2.2.2.1;have f1:=C.2.2.2.2.2.1;have f2:=C.2.2.2.2.2.2.1;have f3:=C.2.2.2.2.2.2.2;have hZ:=hq.1;refine wpAnyL_o 10 λK hK=>?_;go_simp;(try rw[hZ]);refine hK.out _ _ (λ_=>I.out _ hq.2.1) ?_;clear hK K
     try simp only[Qg,Zhb,Zgo,Zg6]
     refine Zgp 1 [11] rfl Gi (I.out _ hq.2.1) ?_
     (refine tkA ?_;try simp only[Qg,Zhb,Zgo,Zg6,Gr,Gq,Gp])
     refine tk0 ?_;refine wpAnyL_fin ?_;have o9:=hq.2.1;have ssb:=Zb hq.2.2.1;have i1:Hid (wr.heap.size<=gss):=Zb b0;replace ssf:=Zb (Fr.keep ssf hq.2.2.2.1);clear hq hZ c0 f4 e7 c3 f0 f1 f2 f3 C qv kv b0 u hb O I hxs;have c9:=a9.out.below o9;have f9:Fr Zss ssn m8 ssk ssc ssm o6 ssj ssd (upS (λi j=>(Zaf E' i j:Rat)) X i (n+t) (i+1)):=by rw[Ztf _ _ _ _ _ (Qb _)];exact ssf.out
     have j8:Hid (∀ r ∈ L,r.g≠gss):=Zb (λr hr e=>by
      have a1:=u7.out r hr;have a2:=a9.out.2.2.2.2.size;have a3:=i1.out;omega)
     have h5:Hid (cur.val.ownBlock≠some gss):=Zb (λe=>by
      obtain⟨cs,a1,-,-⟩:=a9.out.2.2.1.ownBlk _ e;have a2:=a1.lt;have a3:=i1.out;omega)
     have l0:Hid (W.heap.size<=gss):=Zb (QD a9.out.2.2.2.2.size i1.out);have A4:Hid (∀ k,k=gss->∃ t cs,Blk Zss k t cs/\NoLimb cs):=Zb (λk hk=>⟨_,_,hk▸ssb.out,Zfq _ _ _ _ _ _ _ _⟩);have z6:Hid (∀ W',Kept (λk=>k=gss) Zss W'->BunK 3 25 149 150 39 35 41 w.heap.size gX gO gB go n (some ⟨go,0,none⟩) cap L2 W i cur ((Ql t).map λc=>X i (n+c)) L W'):=Zb (λW' hk=>c9.turn l6.out g2 ssb.out (Zfq _ _ _ _ _ _ _ _) j8.out h5.out l0.out hk);replace f9:=Zb f9;replace c9:=Zb c9;clear ssf c0 c1 nc hz a9 c9
     gi_wp2_with fail
     gi_loopw [16] (λjv wx=>∃ (j:Nat) (sn:Bool) (sA:Option Addr) (sk sc:Nat) (sm:Bool) (sB:Option Addr) (sj sd:Nat),jv=.int .i64 j/\i+1<=j/\j<=n/\Blk wx gss 41 #[.bool sn,.slice sA sk sc,.bool sm,.slice sB sj sd]/\Fr wx sn sA sk sc sm sB sj sd (upS (λi j=>(Zaf E' i j:Rat)) X i (n+t) j)/\Kept (λk=>k=gss) Zss wx) (λjv _=>(n-intOf jv).toNat)
     case atStart=>exact⟨i+1,ssn,m8,ssk,ssc,ssm,o6,ssj,ssd,by go_num,Qb _,by omega,ssb.out,f9.out,Qy _ _⟩
     case round =>
      clear f9 ssb;obtain⟨j,sn,sA,sk,sc,sm,sB,sj,sd,rfl,A9,B4,qs,d9,e2⟩:=hrel;have J:=z6.out _ e2;by_cases hjn':j<n
      ·skip
       have t3:decide ((j:Int)<(n:Int))=true:=Gv Gk;have C0:(0:Int)<=(j:Int):=Gk;have bjn:(j:Int)<(n:Int):=Gk;have bjm:(j:Int)<(m:Int):=Gk;have ej:((j:Nat):Int).toNat=j:=Gk;obtain⟨zn,zA,zk,zc,c0,c1,hz⟩:=(J.1.2.2.2.row hx).1.at_ (i:=j) (by rw[j2];omega);rw[e8.out]at hz;have nc:=J.1.1.cell 0;simp at nc;replace J:=Zb J;replace qs:=Zb qs;replace d9:=Zb d9;replace e2:=Zb e2
       gi_wp2_with fail
       have c4:Hid (∀ wx,Below wr.heap.size wr wx->wx.cell? ⟨x.g,(j)*2,none⟩=some (.bool zn)/\wx.cell? ⟨x.g,(j)*2+1,none⟩=some (.slice zA zk zc)):=Zb (λwx u=>⟨Za u c0,Za u c1⟩);have T:Below wr.heap.size wr wr.drew:=Zf (Qd _ _) 1;refine Zxs [] hmx Gi c4 T (λhxs=>?_);refine Zj9 4 [0,1,2,3] rfl Gi (c4.out _ T) ?_
       iterate 4 (refine tkA ?_;try simp only[Qg,Zhb,Zgo,Zg6,Gr,Gq,Gp])
       refine tk0 ?_;refine Za1 [(4,72),(5,73),(6,67),(7,74),(9,17)] (λi=>match i with|6=>[8]|_=>[]) [(4,72),(5,73),(6,67),(8,75),(7,74),(9,17)] (Zbm wr.heap.size ((Zaf E' i j):Rat) 4 5 6 7 8 9 8) 2 Gi (λ_ _ _ _ _ hb h=>Zhv hb h) (λwx h=>c4.out _ (Gs T h)) ?hop2 ?hfin2
       case hop2 =>
        intro p hp;simp only[QA,Qv,or_false]at hp;simp only[Qh,Qi,Zam,Qg,Zhb,Zgo,Zg6];rcases hp with rfl|rfl|rfl|rfl|rfl;exact EU
        ·intro ν wx hb hP
         have u:=Gs T hb;have h0:=hP (4,72) Gh Gi;simp only[Zbm]at h0;obtain⟨D0,e0,f0,hν,hN⟩:=h0;rw[hν];refine Zm (i:=5) rfl (λK hK=>?_);go_simp;refine(Zgj zn zA D0 zk zc e0 f0 (Zaf E' i j) 1 wx (hz.below u) hN Gj).mono ?_;exact Fv
        ·intro ν wx hb hP
         have h0:=hP (5,73) Gh Gi;exact Ed
        ·intro ν wx hb hP
         have h0:=hP (6,67) Gh Gi;exact EM
        exact EC
       case hfin2 =>
        intro ν wx hb hP;have h9:=hP (4,72) Gh;have h0:=hP (5,73) Gh;have h1:=hP (6,67) Gh;have h2:=hP (7,74) Gh;have h3:=hP (8,75) Gh;have h4:=hP (9,17) Gh;simp only[Zbm,Zav]at h9 h0 h1 h2 h4;obtain⟨y0,y1,y2,h9,-⟩:=h9;obtain⟨a0,a1,a2,a3,a4,a5,a6,a7,h0,-⟩:=h0;obtain⟨n5,p1,o8,p4,m0,n4,o4,p3,h1,-⟩:=h1;obtain⟨ccn,l7,cck,ccc,ccm,m7,ccj,ccd,h2,ccf⟩:=h2;obtain⟨gcc,h4,kv,qv⟩:=h4;simp only[Qh,Qi,Zam,Qg,Zhb,Zgo,Zg6];rw[h9,h0,h1,h2,(show ν 75=Value.int .i64 0 by simpa [Zbm,Zav]using h3),h4];clear h9 h0 h1 h2 h3 h4 hP ν;have u:=Gs T hb;have C:=qv.four;have b0:wr.heap.size<=gcc:=kv;refine(Zaa ccn l7 cck ccc ccm m7 ccj ccd u b0 qv).elim (λZcc hq=>?_);have c0:=C.1;have f4:=C.2.1;have e7:=C.2.2.1;have c3:=C.2.2.2.1;have f0:=C.2.2.2.2.1;have f1:=C.2.2.2.2.2.1;have f2:=C.2.2.2.2.2.2.1;have f3:=C.2.2.2.2.2.2.2;have hZ:=hq.1;refine wpAnyL_o 10 λK hK=>?_;go_simp;(try rw[hZ]);refine hK.out _ _ (λ_=>c4.out _ hq.2.1) ?_;clear hK K
        try simp only[Qg,Zhb,Zgo,Zg6]
        refine Zgp 1 [11] rfl Gi (c4.out _ hq.2.1) ?_
        (refine tkA ?_;try simp only[Qg,Zhb,Zgo,Zg6,Gr,Gq,Gp])
        refine tk0 ?_;refine wpAnyL_fin ?_;have b2:=hq.2.1;have ccb:=Zb hq.2.2.1;have A7:Hid (wr.heap.size<=gcc):=Zb b0;replace ccf:=Zb (Fr.keep ccf hq.2.2.2.1);clear hq hZ c0 f4 e7 c3 f0 f1 f2 f3 C qv kv b0 u hb T c4 hxs;have a8:=J.out.below b2;have j1:=e2.out.below b2;have b5:=Zc b2 qs.out;have b1:=d9.out.below b2;obtain⟨y,hy⟩:=Zb0 (L:=L) (i:=j-(i+1)) (by have:=congrArg QY g7.out;rw[Qc,List.length_drop]at this;unfold Zjx at this;rw[Qc,Qq]at this;omega);obtain⟨p2,v6⟩:=Zzs hjn' hlt g7.out Gk hy;obtain⟨⟨-,y7,y9⟩,-⟩:=hO.out.2.1 y (Qr hy);rw[p2]at y7;unfold maxLen at y9
        have t6:(Qa i Za3++cur::L.map RF.rs)[j]?=some y.rs:=by
         rw[Qf (by rw[Qo];omega),Qo,show j-i=j-(i+1)+1 by omega,List.getElem?_cons_succ,Qe,hy];rfl
        have k0:=a8.1.1.cell 0;simp at k0;have k1:=a8.1.2.1.cell 0;simp at k1;have k2:=a8.2.1.cell j;rw[Zb4 t6]at k2;simp only[RF.rs]at k2;rw[p2]at k2;obtain⟨n3,A3,k3,c3,m3,B3,j3,s8,r0,r1,r2,r3,o7⟩:=(a8.2.2.2.1 y (Qr hy)).at_ (i:=t) (by rw[p2];exact hlt);rw[v6]at o7;obtain⟨u0,u1,u2,u3,-⟩:=ccb.out.four;have j0:=(d3.out i j).sm Gj Gj;have i5:=(d4.out j (n+t)).sm Gj Gj;have v9:Hid (SmN 600 600 ((Zaf E' i j:Rat)*X j (n+t))):=Zb ((d3.out i j).mulN (d4.out j (n+t)));have B2:(0:Int)<=(t:Int):=Gk;have btm:(t:Int)<((m-n:Nat):Int):=Gk;have et:(n:Int)+(t:Int)-(n:Int)=(t:Int):=Gk;have B1:((t:Nat):Int).toNat=t:=Gk;have B7:IntKind.i64.wrap (t:Int)=(t:Int):=by rw[IntKind.wrap_i64];omega
        replace a8:=Zb a8;replace j1:=Zb j1;replace b5:=Zb b5;replace b1:=Zb b1;clear c0 c1 nc hz t6 J e2 qs d9
        gi_wp2_with fail
        have c2:Hid (∀ wx,Below Zcc.heap.size Zcc wx->wx.cell? ⟨gcc,0,none⟩=some (.bool ccn)/\wx.cell? ⟨gcc,1,none⟩=some (.slice l7 cck ccc)/\wx.cell? ⟨gcc,2,none⟩=some (.bool ccm)/\wx.cell? ⟨gcc,3,none⟩=some (.slice m7 ccj ccd)/\wx.cell? ⟨gX,0,none⟩=some (.slice (some ⟨gO,0,none⟩) n n)/\wx.cell? ⟨w.heap.size,0,none⟩=some (.int .i64 n)/\wx.cell? ⟨gO,j,none⟩=some (.slice (some ⟨y.g,0,none⟩) (m-n) y.c)/\wx.cell? ⟨y.g,t*4,none⟩=some (.bool n3)/\wx.cell? ⟨y.g,t*4+1,none⟩=some (.slice A3 k3 c3)/\wx.cell? ⟨y.g,t*4+2,none⟩=some (.bool m3)/\wx.cell? ⟨y.g,t*4+3,none⟩=some (.slice B3 j3 s8)):=Zb (λwx u=>⟨Za u u0,Za u u1,Za u u2,Za u u3,Za u k1,Za u k0,Za u k2,Za u r0,Za u r1,Za u r2,Za u r3⟩);have c7:Below Zcc.heap.size Zcc Zcc.drew:=Zf (Qd _ _) 1;refine Zxs [] hmx Gi c2 c7 (λhxs3=>?_);refine Zj9 10 [0,1,2,3,4,5,6,7,8,9] rfl Gi (c2.out _ c7) ?_
        iterate 10 (refine tkA ?_;try simp only[Qg,Zhb,Zgo,Zg6,Gr,Gq,Gp])
        refine tk0 ?_;refine Za1 [(10,87),(11,76),(12,88),(14,19)] (λi=>match i with|11=>[13]|_=>[]) [(10,87),(11,76),(13,89),(12,88),(14,19)] (Zav Zcc.heap.size ((Zaf E' i j:Rat)*X j (n+t)) 10 11 12 13 14 13) 2 Gi (λ_ _ _ _ _ hb h=>Zhm hb h) (λwx h=>c2.out _ (Gs c7 h)) ?hop3 ?hfin3
        case hop3 =>
         intro p hp;simp only[QA,Qv,or_false]at hp;simp only[Qh,Qi,Zam,Qg,Zhb,Zgo,Zg6];rcases hp with rfl|rfl|rfl|rfl
         ·intro ν wx hb hP
          have u:=Gs c7 hb;refine Zm (i:=10) rfl (λK hK=>?_);go_simp;refine(Zwt ccn ccm n3 m3 l7 m7 A3 B3 cck ccc ccj ccd k3 c3 j3 s8 _ _ wx (ccf.out.below u) (o7.below u) j0 i5).mono ?_;rintro e w5 ⟨ao,bZ,A5,k5,c5,eo,B5,m5,d5,rfl,av⟩;exact hK.out _ _ ⟨_,rfl,(by simp only[Zav];exact⟨_,_,_,_,_,_,_,_,rfl,av⟩),ao,trivial⟩
         ·intro ν wx hb hP
          have h0:=hP (10,87) Gh Gi;simp only[Zav]at h0;obtain⟨bZ,A5,k5,c5,eo,B5,m5,d5,hν,av⟩:=h0;rw[hν];refine Zm (i:=11) rfl (λK hK=>?_);go_simp;refine hK.out _ _ ⟨_,rfl,(by simp only[Zav];exact⟨_,_,_,_,_,_,_,_,rfl,av⟩),Qd _ _,?_⟩;exact⟨_,.int .i64 0,rfl,Or.inl ⟨by kernel_rfl,λW2 _=>by go_simp⟩,by simp[Zav],trivial⟩
         ·intro ν wx hb hP
          have h0:=hP (11,76) Gh Gi;simp only[Zav]at h0;obtain⟨bZ,A5,k5,c5,eo,B5,m5,d5,hν,av⟩:=h0;rw[hν];refine Zm (i:=12) rfl (λK hK=>?_);go_simp;exact hK.out _ _ ⟨_,rfl,(by simp only[Zav];exact⟨_,_,_,_,_,_,_,_,rfl,av⟩),Qd _ _,trivial⟩
         intro ν wx hb hP;refine Zm (i:=14) rfl (λK hK=>?_);go_simp;exact hK.out _ _ ⟨_,rfl,(by simp only[Zav];exact⟨_,rfl,hb.size,QL _ _ _⟩),(Qd _ _).alloc (Qb _) _,trivial⟩
        case hfin3 =>
         intro ν wx hb hP;have h0:=hP (10,87) Gh;have h1:=hP (11,76) Gh;have h2:=hP (12,88) Gh;have h3:=hP (13,89) Gh;have h4:=hP (14,19) Gh;simp only[Zav]at h0 h1 h2 h4;obtain⟨a0,a1,a2,a3,a4,a5,a6,a7,h0,-⟩:=h0;obtain⟨n5,p1,o8,p4,m0,n4,o4,p3,h1,-⟩:=h1;obtain⟨wwn,r4,wwk,wwc,wwm,r6,wwj,wwd,h2,wwf⟩:=h2;obtain⟨gww,h4,kv,qv⟩:=h4;simp only[Qh,Qi,Zam,Qg,Zhb,Zgo,Zg6];rw[h0,h1,h2,(show ν 89=Value.int .i64 0 by simpa [Zav]using h3),h4];clear h0 h1 h2 h3 h4 hP ν;have u:=Gs c7 hb;have C:=qv.four;have b0:Zcc.heap.size<=gww:=kv;refine(Zaa wwn r4 wwk wwc wwm r6 wwj wwd u b0 qv).elim (λZww hq=>?_);have c0:=C.1;have f4:=C.2.1;have e7:=C.2.2.1;have c3:=C.2.2.2.1;have f0:=C.2.2.2.2.1;have f1:=C.2.2.2.2.2.1;have f2:=C.2.2.2.2.2.2.1;have f3:=C.2.2.2.2.2.2.2;have hZ:=hq.1;refine wpAnyL_o 15 λK hK=>?_;go_simp;(try rw[hZ]);refine hK.out _ _ (λ_=>c2.out _ hq.2.1) ?_;clear hK K
         try simp only[Qg,Zhb,Zgo,Zg6]
         refine Zgp 1 [16] rfl Gi (c2.out _ hq.2.1) ?_
         (refine tkA ?_;try simp only[Qg,Zhb,Zgo,Zg6,Gr,Gq,Gp])
         refine tk0 ?_;refine wpAnyL_fin ?_;have b3:=hq.2.1;have wwb:=Zb hq.2.2.1;replace wwf:=Zb (Fr.keep wwf hq.2.2.2.1);clear hq hZ c0 f4 e7 c3 f0 f1 f2 f3 C qv kv u hb c7 c2 hxs3;have q4:=a8.out.below b3;have n1:=j1.out.below b3;have i7:=Zc b3 b5.out;have j9:=b1.out.below b3;have o5:=(d5.out i (n+t) j).sm Gj Gj;have x4:=v9.out.sm Gj Gj;obtain⟨s0,s1,s2,s3,-⟩:=i7.four;obtain⟨v0,v1,v2,v3,-⟩:=wwb.out.four;replace q4:=Zb q4;replace n1:=Zb n1;replace i7:=Zb i7;clear r0 r1 r2 r3 u0 u1 u2 u3 k0 k1 k2 j0 i5 a8 j1 b5 b1 o7 ccf ccb b2 b3
         gi_wp2_with fail
         refine⟨trivial,?_⟩;refine(CallsIn.inRound l (callsIn_wide.2 (Zwr sn sm wwn wwm sA sB r4 r6 sk sc sj sd wwk wwc wwj wwd _ _ Zww j9 wwf.out o5 x4))).mono ?_;rintro e w8 ⟨f6,n6,A6,k6,c6,m6,B6,j6,d6,rfl,f8⟩;rw[<- Zrj (λi j=>(Zaf E' i j:Rat)) X (i:=i) (k:=n+t) (t:=j) Gk]at f8;have e6:=Zc f6 i7.out;have p7:=n1.out.below f6;obtain⟨W9,f7,y5,q9,i2,-,s9⟩:=Zaa (B:=gss) n6 A6 k6 c6 m6 B6 j6 d6 (Qd gss w8) (Qb _) e6;have o0:=Zb (Fr.keep f8 i2)
         have w4:Hid (Kept (λk=>k=gss) Zss W9):=Zb (by
          rw[<- f7];exact((((p7.set_ (p:=⟨gss,0,none⟩) (.inl rfl) _).set_ (p:=⟨gss,1,none⟩) (.inl rfl) _).set_ (p:=⟨gss,2,none⟩) (.inl rfl) _).set_ (p:=⟨gss,3,none⟩) (.inl rfl) _))
         replace q9:=Zb q9;clear s0 s1 s2 s3 v0 v1 v2 v3 j9 f8 f6 i2 p7;obtain⟨s0,s1,s2,s3,s4,s5,m9,s7⟩:=e6.four
         gi_wp2_with fail
         (try rw[f7]);clear s0 s1 s2 s3 s4 s5 m9 s7 f7 e6
         go_roundw
         case measure=>simp[intOf];omega
         case rel=>exact⟨j+1,n6,A6,k6,c6,m6,B6,j6,d6,by go_num,by omega,by omega,q9.out,o0.out,w4.out⟩
      obtain rfl:j=n:=Gk;have t3:decide ((j:Int)<(j:Int))=false:=Gh;have A8:(0:Int)<=(i:Int):=Gk;have bim:(i:Int)<(m:Int):=Gk;have bij:(i:Int)<(j:Int):=Gk;have ei:((i:Nat):Int).toNat=i:=Gk;obtain⟨zn,zA,zk,zc,c0,c1,hz⟩:=(J.1.2.2.2.row hx).1.at_ (i:=i) (by rw[j2];omega);rw[e8.out]at hz;have nc:=J.1.1.cell 0;simp at nc;replace J:=Zb J;replace qs:=Zb qs;replace d9:=Zb d9;replace e2:=Zb e2
      gi_wp2_with fail
      have b6:Hid (∀ wx,Below wr.heap.size wr wx->wx.cell? ⟨x.g,(i)*2,none⟩=some (.bool zn)/\wx.cell? ⟨x.g,(i)*2+1,none⟩=some (.slice zA zk zc)):=Zb (λwx u=>⟨Za u c0,Za u c1⟩);have c8:Below wr.heap.size wr wr.drew:=Zf (Qd _ _) 1;refine Zxs [] hmx Gi b6 c8 (λhxs=>?_);refine Zj9 4 [0,1,2,3] rfl Gi (b6.out _ c8) ?_
      iterate 4 (refine tkA ?_;try simp only[Qg,Zhb,Zgo,Zg6,Gr,Gq,Gp])
      refine tk0 ?_;refine Za1 [(4,101),(5,102),(6,96),(7,103),(9,21)] (λi=>match i with|6=>[8]|_=>[]) [(4,101),(5,102),(6,96),(8,104),(7,103),(9,21)] (Zbm wr.heap.size ((Zaf E' i i):Rat) 4 5 6 7 8 9 8) 2 Gi (λ_ _ _ _ _ hb h=>Zhv hb h) (λwx h=>b6.out _ (Gs c8 h)) ?hop4 ?hfin4
      case hop4 =>
       intro p hp;simp only[QA,Qv,or_false]at hp;simp only[Qh,Qi,Zam,Qg,Zhb,Zgo,Zg6];rcases hp with rfl|rfl|rfl|rfl|rfl;exact EU
       ·intro ν wx hb hP
        have u:=Gs c8 hb;have h0:=hP (4,101) Gh Gi;simp only[Zbm]at h0;obtain⟨D0,e0,f0,hν,hN⟩:=h0;rw[hν];refine Zm (i:=5) rfl (λK hK=>?_);go_simp;refine(Zgj zn zA D0 zk zc e0 f0 (Zaf E' i i) 1 wx (hz.below u) hN Gj).mono ?_;exact Fv
       ·intro ν wx hb hP
        have h0:=hP (5,102) Gh Gi;exact Ed
       ·intro ν wx hb hP
        have h0:=hP (6,96) Gh Gi;exact EM
       exact EC
      case hfin4 =>
       intro ν wx hb hP;have h9:=hP (4,101) Gh;have h0:=hP (5,102) Gh;have h1:=hP (6,96) Gh;have h2:=hP (7,103) Gh;have h3:=hP (8,104) Gh;have h4:=hP (9,21) Gh;simp only[Zbm,Zav]at h9 h0 h1 h2 h4;obtain⟨y0,y1,y2,h9,-⟩:=h9;obtain⟨a0,a1,a2,a3,a4,a5,a6,a7,h0,-⟩:=h0;obtain⟨n5,p1,o8,p4,m0,n4,o4,p3,h1,-⟩:=h1;obtain⟨ddn,t7,ddk,ddc,ddm,t4,ddj,ddd,h2,ddf⟩:=h2;obtain⟨gdd,h4,kv,qv⟩:=h4;simp only[Qh,Qi,Zam,Qg,Zhb,Zgo,Zg6];rw[h9,h0,h1,h2,(show ν 104=Value.int .i64 0 by simpa [Zbm,Zav]using h3),h4];clear h9 h0 h1 h2 h3 h4 hP ν;have u:=Gs c8 hb;have C:=qv.four;have b0:wr.heap.size<=gdd:=kv;refine(Zaa ddn t7 ddk ddc ddm t4 ddj ddd u b0 qv).elim (λZdd hq=>?_);have c0:=C.1;have f4:=C.2.1;have e7:=C.2.2.1;have c3:=C.2.2.2.1;have f0:=C.2.2.2.2.1;have f1:=C.2.2.2.2.2.1;have f2:=C.2.2.2.2.2.2.1;have f3:=C.2.2.2.2.2.2.2;have hZ:=hq.1;refine wpAnyL_o 10 λK hK=>?_;go_simp;(try rw[hZ]);refine hK.out _ _ (λ_=>b6.out _ hq.2.1) ?_;clear hK K
       try simp only[Qg,Zhb,Zgo,Zg6]
       refine Zgp 1 [11] rfl Gi (b6.out _ hq.2.1) ?_
       (refine tkA ?_;try simp only[Qg,Zhb,Zgo,Zg6,Gr,Gq,Gp])
       refine tk0 ?_;refine wpAnyL_fin ?_;have d7:=hq.2.1;have ddb:=Zb hq.2.2.1;have A2:Hid (wr.heap.size<=gdd):=Zb b0;replace ddf:=Zb (Fr.keep ddf hq.2.2.2.1);clear hq hZ c0 f4 e7 c3 f0 f1 f2 f3 C qv kv b0 u hb c8 b6 hxs;have a8:=J.out.below d7;have b5:=Zc d7 qs.out;have b1:=d9.out.below d7;obtain⟨s0,s1,s2,s3,-⟩:=b5.four;obtain⟨v0,v1,v2,v3,-⟩:=ddb.out.four;have j0:=(d5.out i (j+t) j).sm Gj Gj;have i5:=(d3.out i i).sm Gj Gj;have o5:=d1.out i q6;replace a8:=Zb a8;replace b5:=Zb b5;clear c0 c1 nc hz J e2 qs d9 d7
       gi_wp2_with fail
       refine⟨trivial,?_⟩;refine(CallsIn.inRound l (callsIn_wide.2 (Zsk sn sm ddn ddm sA sB t7 t4 sk sc sj sd ddk ddc ddj ddd _ _ Zdd b1 ddf.out j0 i5 o5))).mono ?_;rintro e w8 ⟨f6,n6,A6,k6,c6,m6,B6,j6,d6,rfl,f8⟩;rw[show upS (λi j=>(Zaf E' i j:Rat)) X i (j+t) j/(Zaf E' i i:Rat)=X i (j+t) from(d2.out i (j+t) q6 Gk Gk).symm]at f8;have t8:=a8.out.below f6;have e6:=Zc f6 b5.out;obtain⟨W9,f7,y5,q9,i2,-,s9⟩:=Zaa (B:=gss) n6 A6 k6 c6 m6 B6 j6 d6 (Qd gss w8) (Qb _) e6;have o0:=Zb (Fr.keep f8 i2)
       have r5:Kept (λk=>k=gss) w8 W9:=by
        rw[<- f7];exact(((((Qy (λk=>k=gss) w8).set_ (p:=⟨gss,0,none⟩) (.inl rfl) _).set_ (p:=⟨gss,1,none⟩) (.inl rfl) _).set_ (p:=⟨gss,2,none⟩) (.inl rfl) _).set_ (p:=⟨gss,3,none⟩) (.inl rfl) _)
       have b9:=t8.turn l6.out g2 e6 (Zfq _ _ _ _ _ _ _ _) j8.out h5.out l0.out r5;replace q9:=Zb q9;clear s0 s1 s2 s3 v0 v1 v2 v3 b1 f8 f6 i2 a8 t8 r5 ddf ddb b5;obtain⟨s0,s1,s2,s3,s4,s5,m9,s7⟩:=e6.four;have kO:=b9.2.1.cell i;rw[Zb4 (e:=cur) (by rw[Qf (by rw[Qo];exact Qb _),Qo,Qm];rfl)]at kO;have kX:=b9.1.2.1.cell 0;simp at kX;have kz:=b9.2.1.frozen i;replace b9:=Zb b9
       gi_wp2_with fail
       (try rw[f7]);clear s0 s1 s2 s3 s4 s5 m9 s7 f7 e6;obtain⟨x0,x1,x2,x3,-⟩:=q9.out.four;obtain⟨X0,n7⟩:=Gz W9.drew
       have O:Below W9.heap.size W9 X0:=by rw[<- n7];exact Zf (Qd _ _) 1
       have I:Hid (∀ wx,Below W9.heap.size W9 wx->wx.cell? ⟨gX,0,none⟩=some (.slice (some ⟨gO,0,none⟩) j j)/\wx.cell? ⟨gO,i,none⟩=some (.slice cur.A cur.n cur.c)/\wx.cell? ⟨gss,0,none⟩=some (.bool n6)/\wx.cell? ⟨gss,1,none⟩=some (.slice A6 k6 c6)/\wx.cell? ⟨gss,2,none⟩=some (.bool m6)/\wx.cell? ⟨gss,3,none⟩=some (.slice B6 j6 d6)):=Zb (λwx u=>⟨Za u kX,Za u kO,Za u x0,Za u x1,Za u x2,Za u x3⟩);refine Zxs [10] hmx Gi I (by rw[n7];exact O) (λhxs=>?_);rw[n7];refine Zj9 7 [0,1,2,3,4,5,6] rfl Gi (I.out _ O) ?_
       iterate 7 (refine tkA ?_;try simp only[Qg,Zhb,Zgo,Zg6,Gr,Gq,Gp])
       refine tk0 ?_;obtain⟨Y1,i6⟩:=Gz (X0.alloc (.cells #[.bool n6,.slice A6 k6 c6,.bool m6,.slice B6 j6 d6] 41));obtain⟨ga,m2⟩:=Gz X0.heap.size;have u6:Below X0.heap.size X0 Y1:=by rw[<- i6];exact(Qd _ _).alloc (Qb _) _
       have p9:Blk Y1 ga 41 #[.bool n6,.slice A6 k6 c6,.bool m6,.slice B6 j6 d6]:=by rw[<- i6,<- m2];exact QL _ _ _
       have T:Below W9.heap.size W9 Y1:=Gs O u6;refine wpAnyL_o 7 λK hK=>?_;go_simp;(try rw[i6]);(try rw[m2]);refine hK.out _ _ (λ_=>I.out _ T) ?_;clear hK K i6 m2
       try simp only[Qg,Zhb,Zgo,Zg6]
       have U:=b9.out.below T;have p5:=o0.out.below T;have v7:=U.2.2.2.2.size;refine wpAnyL_o 8 λK hK=>?_;rw[Gx Ge];refine Zhl _ (.tmp 116) (.tmp 118) 35 rfl W.heap.size 41 iF Tryz.underlying35 hi y8 A1 x6 cur.val ((Ql t).map λc=>X i (j+c)) rfl U.2.2.1 _ (some ⟨ga,0,none⟩) 1 1 [⟨n6,A6,k6,c6,m6,B6,j6,d6,X i (j+t)⟩] rfl (Zb7 _ p9) rfl (by intro e he;rw[Qz]at he;subst he;exact p5) Gg v7 ?_;intro v2 Y2 aY j5 r9
       obtain⟨nA,nn,nc,rfl⟩:∃ A n c,v2=.slice A n c:=by
        exact Cp
       have k8:OwnF 41 Y2 W.heap.size (RS.val ⟨nA,nn,nc⟩) ((Ql (t+1)).map λc=>X i (j+c)):=by
        rw[Yb,Qn];exact aY
       have h8:=U.2.2.1.ownBlk
       have j4:Y2.cell? ⟨gX,0,none⟩=some (.slice (some ⟨gO,0,none⟩) j j)/\Y2.cell? ⟨gO,i,none⟩=some (.slice cur.A cur.n cur.c)/\Y2.cell? ⟨gss,0,none⟩=some (.bool n6)/\Y2.cell? ⟨gss,1,none⟩=some (.slice A6 k6 c6)/\Y2.cell? ⟨gss,2,none⟩=some (.bool m6)/\Y2.cell? ⟨gss,3,none⟩=some (.slice B6 j6 d6):=by
        have f:∀ (g o:Nat) (v:Value),g<W.heap.size \/ g=gO \/ g=gss->Y1.cell? ⟨g,o,none⟩=some v->Y2.cell? ⟨g,o,none⟩=some v:=λg o v hgg hv=>by
         rw[<- hv];refine QO (j5.block g (Zo hv) (λe=>?_));obtain⟨cs,a1,-,a2⟩:=h8 g e.symm;rcases hgg with h1|h1|h1;omega;subst h1;exact g2 (U.2.1.type a1);subst h1;exact h5.out e.symm
        have t9:gX<W.heap.size:=hE.out.2.1.lt;obtain⟨a0,a1,a2,a3,a4,a5⟩:=I.out _ T;exact⟨f _ _ _ (.inl t9) a0,f _ _ _ (.inr (.inl rfl)) a1,f _ _ _ (.inr (.inr rfl)) a2,f _ _ _ (.inr (.inr rfl)) a3,f _ _ _ (.inr (.inr rfl)) a4,f _ _ _ (.inr (.inr rfl)) a5⟩
       refine hK.out _ _ (λ_=>j4) ?_;clear hK K
       try simp only[Qg,Zhb,Zgo,Zg6]
       have n9:=Zb (U.app l6.out z5.out g2 u7.out (cur':=⟨nA,nn,nc⟩) j5 k8 r9);have w3:=j4.2.1
       have A0:Y2.frozen? ⟨gO,i,none⟩=false:=by
        rw[World.frozen?_of_block (j5.block gO U.2.1.lt (λe=>by
         obtain⟨cs,a1,-,-⟩:=h8 gO e.symm;exact g2 (U.2.1.type a1)))]
        exact U.2.1.frozen i
       refine Zgp 1 [9] rfl Gi j4 ?_
       (refine tkA ?_;try simp only[Qg,Zhb,Zgo,Zg6,Gr,Gq,Gp])
       refine tk0 ?_;clear j4 aY k8 h8 U p5 p9 u6 T;refine Zv (i:=10) rfl Gi Gi (λK hK=>?_);go_simp;refine hK.out _ _ ?_;clear hK K
       try simp only[Qg,Zhb,Zgo,Zg6]
       refine wpAnyL_fin ?_;clear w3 A0 hxs I O kX kO kz x0 x1 x2 x3 j5 r9
       gi_wp2_with fail
       go_roundw
       case measure=>simp[intOf];omega
       case rel=>exact⟨t+1,⟨nA,nn,nc⟩,by go_num,by omega,n9.out⟩
   obtain rfl:t=m-n:=Gk;have t2:decide ((n:Int)+((m-n:Nat):Int)<(m:Int))=false:=Gu Gk;obtain⟨r,z4,p6⟩:=a9.out Gg hO.out q2;have w9:KeepsOthers W wr:=a9.2.2.2.2.others (λk hk=>⟨_,_,hk▸hO.out.1⟩);have s6:Below W0.heap.size W0 wr:=g4.out.trans (a9.2.2.2.2.to_below (λk hk=>by rw[hk];exact w7) q2);have o2:=a9.1
   gi_wp2_with fail
   (try go_at_K);refine⟨w9,⟨λ_=>by rw[o2.2.2.1.cell];rfl,λ_=>o2.sl l2 i9 p0⟩,⟨o2,r::L,by rw[QE,t5],?_,?_⟩,s6⟩
   rw[Qh,z4,g7.out,Zw9 hk,show n-k=i+1 by omega,show n-1-k=i by omega];rw[y6];exact p6
 case done =>
  intro D W hD hI hK
  have z7:∀ (W':World),W'=W.putObj D (.deferred none)->(EnvK 3 25 149 150 39 W' w.heap.size gX gO gB go n (some ⟨go,0,none⟩) cap L2/\∃ L:List RF,L.length=n/\L.map RF.q=(Zjx X n m).drop (n-n)/\OutK 35 41 W' W0.heap.size gO (n-n) L):=λW' e=>by
   obtain⟨⟨h1,L,h2,h3,h4⟩,-⟩:=hI;subst e;have hr:∀ r,some D=some r->∃ o:Obj,W.heap[r]?=some o/\o.isCells=false:=λr e=>by cases e;exact⟨_,hK,rfl⟩
   exact⟨h1.own (grownBy_putObj' W D _) hr,L,h2,h3,h4.own (grownBy_putObj' W D _) hr⟩
  have kX:=hI.1.1.2.1.cell 0;simp at kX;have g4:=hI.2;clear hI;go_wp2_with fail
  have v4:w.heap.size<=V5.heap.size:=by
   have h1:=J.out.size;have h2:=g5.size;omega
  refine⟨by simp,.inl ⟨_,_,rfl,run_takeDeferred hK,?_⟩⟩;obtain⟨B8,L,B9,t0,aY⟩:=z7 _ rfl;rw[Qm]at t0 aY;refine⟨.tuple #[.slice (some ⟨gO,0,none⟩) n n,.bool true],by simp[results,Tryz.f82,go_sem],gO,L,rfl,(Gs g5 g4).trans (belowK_b (w:=V5) v4 W D _ _ hD hK rfl rfl),by have h2:=g5.size;omega,⟨⟨[],?_⟩,λr hr=>(aY.2.1 r hr).1,?_⟩,by rw[t0,List.drop_zero],λr hr=>QD g5.size (aY.2.1 r hr).2⟩
  ·have h1:=aY.1
   rw[List.replicate_zero,Qp]at h1;rw[Qt];exact h1
  rw[Yc];refine⟨λhm=>?_,aY.2.2⟩;obtain⟨r,hr,e⟩:=List.mem_map.1 hm;obtain⟨es,zs,h1,-,-⟩:=(aY.2.1 r hr).1.1;rw[e]at h1;exact g2 (aY.1.type h1)
theorem Z0i(A:Option Addr)(n c m:Nat)(Q:List (List Rat))(w:World)(h:MFL w A n c Q)(hn0:0<n)(hn9:n<=900)(hnm:n<=m)(hm9:m<=900)(hm:∀ i,i<n->(Q[i]?.getD []).length=m)(T:okZ (pw 200) m n 0 0 (Z7 Q) 1)(hfin:Zr9 Q n m)(a6:(Zap n 0 0 (Z7 Q) false 1).2.1<n) :
    Calls Tryz.prog 82 #[.slice A n c,.int .i64 n] w λe w'=>e=.returned (.tuple #[.slice none 0 0,.bool false])/\Below w.heap.size w w':=by
 have hmx:=Gt;have b9:(150:TypeId)≠39:=Gj;have d4:(35:TypeId)≠41:=Gj;have d6:Hid (NoT 3 25 149 150 39 41):=Zb (by unfold NoT;decide);have d0:Hid (NoT 3 25 149 150 39 35):=Zb (by unfold NoT;decide);obtain⟨iF,hi,d7,d9,d3⟩:=info_parts Ze0;obtain⟨iS,ki,d5,d8,e0⟩:=info_parts Zko;have c1:=Zb h.1;obtain⟨W0,c0,a7,q0,s0⟩:=Zan w 3 #[.int .i64 n];replace h:=h.below a7;obtain⟨FIN,C⟩:=Gz (Zap n 0 0 (Z7 Q) false 1);rw[C]at a6;obtain⟨E',rk,ng,la⟩:=FIN;replace a6:rk<n:=a6;replace C:=Zb C;replace T:=Zb T;refine(callsIn_wide (n:=9)).1 ?_;refine callsIn_of_wp_marks Tryz.func82 rfl trivial ?_ rfl;simp only[Tryz.ntmps82,QB,QE,QG,Nat.reduceAdd,Nat.reduceSub,QP,QQ,QW,QR,Qp,Ya];refine wpIn_wide.2 ?_;go_wp2_with fail;refine(Zpz A n c m Q W0 h hn9 hm Gk hm9 hfin.1 hfin.2).mono ?_;rintro e w1 ⟨v,vb,L,rfl,J,hM,hq,hP,a2⟩;obtain⟨vA,vc,rfl,b6,b5,-⟩:=hP.poly_at;rw[Qc,Qq]at b6 hP a2 ⊢;unfold maxLen at b5;have f:=congrArg QY hq;rw[Qc]at f;unfold Z7 at f;rw[Qc,c1.out]at f;obtain⟨go,cap,rfl,b8,c7,fu,b1,fv⟩:=hM.mat b9 (λe=>by rw[e]at f;simp at f;omega);rw[f]at b8 ⊢;obtain⟨g3,a9⟩:=Gz w1.heap.size;obtain⟨V,hV,U,qv,kW,kB,sV⟩:=Zs 152 #[.slice (some ⟨go,0,none⟩) n cap,.slice vA n vc] (Qd w1.heap.size w1) (Qb _);have b3:=b1.below U;have O:=(Zc J q0).below U (Zc J q0).lt;rw[a9]at qv;obtain⟨x0,x1,-,-⟩:=qv.two;have nV:=O.cell 0;simp at nV;replace f:=Zb f;have b2:Hid (w.heap.size<W0.heap.size):=Zb Gk;have I:Hid (Below W0.heap.size W0 V):=Zb (Gs J U)
 have o:∀ k,(k=go \/ k ∈ L.map RZ.g)->W0.heap.size<=k:=λk hk=>by
  exact Cu
 have y:∀ k,(k=go \/ k ∈ L.map RZ.g)->k<g3:=λk hk=>by
  obtain⟨t,cs,hb,-⟩:=b1.boxes k hk;rw[<- a9];exact hb.lt
 replace o:=Zb o;replace y:=Zb y;replace qv:=Zb qv;replace O:=Zb O;clear hM b1 kW kB sV a2 hP h c0 fu fv q0 J U;go_wp2_with fail;(try rw[a9]);(try rw[hV]);refine(Ziv go n cap L (.slice vA n vc) m n V b3 f.out hn0 hn9 b8 c7 Gk hm9 (by rw[hq];exact T.out)).mono ?_;rw[hq,C.out];rintro e w2 ⟨L2,ln,lA,lk,lc,rfl,c5,c9,-,a0,b7,Y⟩;replace a0:L2.map RZ.q=E':=a0;clear hV x0 x1 nV;have a3:¬ (g3=go \/ g3 ∈ L.map RZ.g):=λh=>by have:=y.out g3 h;omega
 have q3:=Y.blk qv.out a3;have a5:=Y.blk O.out (λh=>by have:=o.out _ h;have:=b2.out;omega);have b0:Below W0.heap.size W0 w2:=I.out.trans (Y.to_below o.out I.out.size);obtain⟨g6,c2⟩:=Gz w2.heap.size;obtain⟨V2,c4,u,c6,kW,kB,sV⟩:=Zs 39 #[.bool ln,.slice lA lk lc] (Qd w2.heap.size w2) (Qb _);have a4:=q3.below u q3.lt;have a1:=a5.below u a5.lt;have b4:=b7.below u;have a8:=Zb (Gs b0 u);obtain⟨y0,y1,-,-⟩:=a4.two;have c3:=a1.cell 0;simp at c3;have t1:decide ((rk:Int)<(n:Int))=true:=Gv Gk;have c8:Hid (Below w.heap.size w V2):=Zb (Gs a7 a8.out);clear b3 Y b0 c5 q3 a5 kW kB sV o y u a4 a1 b7 c6 a3 O qv I b4 hm hfin T;go_wp2_with fail;(try rw[c2]);(try rw[c4]);go_wp2_with fail;exact⟨.tuple #[.slice none 0 0,.bool false],by simp[results,Tryz.f82,go_sem],rfl,c8.out⟩
section
variable{P:Program}(w:World)
theorem Zlc(base:Nat)(t ty e:TypeId)(i:TypeInfo)(ht:P.underlying t=some (.slice e))(hi:P.info? e=some i)(hz:i.zero=some (.agg #[.bool false,.slice none 0 0,.bool false,.slice none 0 0]))
    (hs:i.size=4) (hby:i.bytes=64) (v:Value) (es:List FE) (ai:RowF e w base v es)
    (B:Nat) (A:Option Addr) (m c:Nat) (fs:List FE) (hr:Reads w B 4 A m (Zp fs)) (hm:fs.length=m) (h63:es.length+m<=1000) (hbase:base<=w.heap.size) :
    ∃ v' w',(Builtin.append_ #[t,t] ty #[v,.slice A m c]).run P w=.ok v' w'/\RowF e w' base v' (es++fs)/\w.grownBy w' v.ownBlock/\(v'.ownBlock=v.ownBlock \/ ∀ k,v'.ownBlock=some k->w.heap.size<=k):=by
 rcases Nat.eq_zero_or_pos m with h0|h0
 ·subst h0
  obtain rfl:fs=[]:=List.eq_nil_of_length_eq_zero hm;rw[Qt];rcases A with _|ad;exact⟨v,w,Zcj w base t ty e i 4 ht hi v _ _ ai.own c,ai,World.grownBy.refl w _,.inl rfl⟩;exact EW
 obtain⟨ad,rfl,_,hc⟩:=hr.2 h0;have hl:(Zp fs).length=m*i.size:=by rw[Zt,hm,hs]
 have eb:es.length*i.size=(Zp es).length:=by rw[Zt,hs]
 rcases ai with ⟨rfl,rfl⟩|⟨g,sp,rfl,h2,h3,h4⟩
 ·have f:=run_append_nil (P:=P) w t ty e i _ ht hi hz ad m c (Zp fs) hl hc h0 Gk (by rw[hby];omega)
  have h:=grownCap_ge w m 0 e;have o:=grownCap_le_maxLen w m 0 e (by unfold maxLen;simp only[QG]at h63;omega);refine⟨_,_,f,.inr ⟨w.heap.size,grownCap w m 0 e-m,?_,hbase,?_,?_⟩,⟨rfl,rfl,rfl,by simp,λk hk _=>Below.heap_alloc w.drew _ k hk⟩,.inr (λk hk=>by first|(simp[Value.ownBlock]at hk;omega)|(cases hk;exact Qb _))⟩;rw[Qp,hm,Qs h];rw[Qp,hm,Qs h];exact o;exact Ea
 by_cases hroom:m<=sp
 ·have f:=run_append_room (P:=P) w t ty e i ht hi g es.length (es.length+sp) _ h4 ad m c (Zp fs) hl hc (Zjl fs) Gk (by rw[eb,Zt,Zt];simp[Z4,Zt];omega)
  refine⟨_,_,f,.inr ⟨g,sp-m,?_,h2,?_,?_⟩,⟨rfl,rfl,rfl,by simp[World.setRow],λk _ hk=>setRow_other w g k _ (λe'=>hk (by simp[Value.ownBlock,e']))⟩,.inl rfl⟩;rw[Qk,hm,show es.length+m+(sp-m)=es.length+sp by omega];rw[Qk,hm];omega;exact EJ
 have y:∀ j u,(Zp es)[j]?=some u->w.cell? ((⟨g,0,none⟩:Addr).add j)=some u:=λj u hu=>by
   rw[Zg,QC,h4.cell];simp only[Z4,QK,Zal];exact Fi
 have f:=run_append_grow (P:=P) w t ty e i _ ht hi hz ⟨g,0,none⟩ es.length (es.length+sp) (Zp es) eb.symm y ad m c (Zp fs) hl hc Gk Gk (growslice_fits Gk (by rw[hby];omega));have h:=grownCap_ge w (es.length+m) (es.length+sp) e;have o:=grownCap_le_maxLen w (es.length+m) (es.length+sp) e (by unfold maxLen;omega);refine⟨_,_,f,.inr ⟨w.heap.size,grownCap w (es.length+m) (es.length+sp) e-(es.length+m),?_,hbase,?_,?_⟩,⟨rfl,rfl,rfl,by simp,λk hk _=>Below.heap_alloc w.drew _ k hk⟩,.inr (λk hk=>by first|(simp[Value.ownBlock]at hk;omega)|(cases hk;exact Qb _))⟩;rw[Qk,hm,Qs h];rw[Qk,hm,Qs h];exact o;exact Eh
theorem Za4{o:Oper}{a:Act}{K:Act->World->Prop}{Q:Exit->Act->World->Prop}(s x:Operand)(t:TypeId)
    (ho:o.op=.call { callee:=.builtin .append,args:=#[s,x],argTypes:=#[t,t] })
    (base:Nat) (e:TypeId) (i:TypeInfo) (ht:P.underlying t=some (.slice e)) (hi:P.info? e=some i) (hz:i.zero=some (.agg #[.bool false,.slice none 0 0,.bool false,.slice none 0 0])) (hsi:i.size=4) (hby:i.bytes=64)
    (v:Value) (qs:List Rat) (hs:a.eval s=v) (hown:OwnF e w base v qs)
    (B:Nat) (A:Option Addr) (m c:Nat) (fs:List FE) (hx:a.eval x=.slice A m c) (hr:Reads w B 4 A m (Zp fs)) (hm:fs.length=m) (iC:∀ e ∈ fs,e.in_ w)
    (h63:qs.length+m<=1000) (hbase:base<=w.heap.size)
    (h:∀ v' w',OwnF e w' base v' (qs++fs.map FE.q)->w.grownBy w' v.ownBlock->(∀ (A:Option Addr) (n c:Nat) (l:List Nat),Lim w A n c l->Lim w' A n c l)->(v'.ownBlock=v.ownBlock \/ ∀ k,v'.ownBlock=some k->w.heap.size<=k)->K (a.put o.dst v') w'):o.wp P a w K Q:=by
 obtain⟨es,h1,h2,rfl⟩:=hown;rw[Qc]at h63;obtain⟨v',w',f,h3,h4,h5⟩:=Zlc (P:=P) w base t o.type e i ht hi hz hsi hby v es h1 B A m c fs hr hm h63 hbase;unfold Oper.wp execOp;simp only[ho,resolve,invoke,builtin,Sem.run_bind,Sem.run_pure,Result.andThen_ok,List.map_toArray,Qh,Qi,hs,hx,f];have hk:∀ (A:Option Addr) (n c:Nat) (l:List Nat),Lim w A n c l->Lim w' A n c l:=λ_ _ _ _ hL=>h1.keep h4 hL;refine h v' w' ⟨es++fs,h3,λe he=>?_,by rw[Qn]⟩ h4 hk h5;exact IE
end
def MatA(tS tF:TypeId)(w:World)(base go:Nat)(rs:List RS)(Q:List (List Rat)):Prop:=
 (∃ zs,Blk w go tS (Z6 (rs++zs)))/\base<=go/\rs.length=Q.length/\(∀ (i:Nat) (r:RS),rs[i]?=some r->OwnF tF w base r.val (Q[i]?.getD [])) /\
  ∀ (i j:Nat) (r s:RS) (k:Nat),rs[i]?=some r->rs[j]?=some s->i≠j->r.val.ownBlock=some k->s.val.ownBlock≠some k
section
variable{tS tF:TypeId}{w w':World}{base go:Nat}{rs:List RS}{Q:List (List Rat)}
theorem MatA.below(h:MatA tS tF w base go rs Q)(hb:Below w.heap.size w w'):MatA tS tF w' base go rs Q:=by
 obtain⟨⟨zs,h1⟩,h2,h3,h4,h5⟩:=h;exact⟨⟨zs,Zc hb h1⟩,h2,h3,λi r hr=>(h4 i r hr).kept hb,h5⟩
theorem MatA.cell(h:MatA tS tF w base go rs Q){i:Nat}{r:RS}(hr:rs[i]?=some r):w.cell? ⟨go,i,none⟩=some (.slice r.A r.n r.c)/\w.frozen? ⟨go,i,none⟩=false:=by
 obtain⟨⟨zs,h1⟩,-⟩:=h;refine⟨?_,h1.frozen i⟩;rw[h1.cell];exact Zb4 (by rw[Qj (List.getElem?_eq_some_iff.1 hr).1];exact hr)
theorem OwnF.rsn{r:RS}{q:List Rat}(h:OwnF tF w base r.val q):r.n=q.length/\FL w r.A r.n r.c q:=by
 obtain⟨A,c,e,hf⟩:=h.fl;simp only[RS.val,Value.slice.injEq]at e;obtain⟨rfl,e2,rfl⟩:=e;refine⟨e2,?_⟩;rw[e2];exact hf
theorem MatA.app(h:MatA tS tF w base go rs Q)(hts:tS≠tF){i:Nat}{r r':RS}{q':List Rat}(hr:rs[i]?=some r)(hg:w.grownBy w' r.val.ownBlock)(ho:OwnF tF w' base r'.val q')(hk:∀ (A:Option Addr) (n c:Nat) (l:List Nat),Lim w A n c l->Lim w' A n c l)
    (hw:r'.val.ownBlock=r.val.ownBlock \/ ∀ k,r'.val.ownBlock=some k->w.heap.size<=k):MatA tS tF (w'.setCell ⟨go,i,none⟩ r'.val) base go (rs.set i r') (Q.set i q'):=by
 obtain⟨⟨zs,h1⟩,h2,h3,h4,h5⟩:=h;have hi:i<rs.length:=(List.getElem?_eq_some_iff.1 hr).1
 have u:∀ (v:Value) (q:List Rat),OwnF tF w base v q->v.ownBlock≠some go:=λv q hv e=>by
  obtain⟨cs,a,-,-⟩:=hv.ownBlk go e;exact hts (h1.type a)
 have b1:Blk w' go tS (Z6 (rs++zs)):=(hg.block go h1.lt (λe=>u _ _ (h4 i r hr) e.symm)).trans h1;have f:=Za9 (rs++zs);have kS:Kept (λk=>k=go) w' (w'.setCell ⟨go,i,none⟩ r'.val):=Kept.set_ (G:=λk=>k=go) (Qy _ _) (p:=⟨go,i,none⟩) (.inl rfl) _
 have y:r'.val.ownBlock≠some go:=λe=>by
  obtain⟨cs,a,-,-⟩:=ho.ownBlk go e;exact hts (b1.type a)
 refine⟨⟨zs,?_⟩,h2,by rw[Yd,Yd];exact h3,λj s hs=>?_,λj l s t k hs ht hjl hsk=>?_⟩
 ·have:=b1.set_ i r'.val
  rw[show r'.val=.slice r'.A r'.n r'.c from rfl,Zds r']at this;rw[List.set_append_left _ _ hi]at this;exact this
 ·rw[QX]at hs
  by_cases hij:i=j
  ·subst hij
   rw[Gx rfl,Gx hi]at hs;cases hs;rw[QH Gk,Option.getD_some];exact ho.keptG b1 f y kS
  rw[Gw hij]at hs;rw[List.getElem?_set_ne hij];have o:=h4 j s hs;have ne:∀ k,s.val.ownBlock=some k->r.val.ownBlock≠some k:=λk e=>h5 j i s r k hs hr (Ne.symm hij) e
  have o2:OwnF tF w' base s.val (Q[j]?.getD []):=by
   obtain⟨es,e1,e2,e3⟩:=o;refine⟨es,?_,λe he=>⟨⟨(e2 e he).1.1,(e2 e he).1.2.1,hk _ _ _ _ (e2 e he).1.2.2⟩,⟨(e2 e he).2.1,(e2 e he).2.2.1,hk _ _ _ _ (e2 e he).2.2.2⟩⟩,e3⟩;rcases e1 with e1|⟨g2,sp,e4,e5,e6,e7⟩;exact .inl e1;exact .inr ⟨g2,sp,e4,e5,e6,(hg.block g2 e7.lt (λe=>ne g2 (by rw[e4];rfl) e.symm)).trans e7⟩
  exact o2.keptG b1 f (u _ _ o) kS
 have fresh:∀ (j:Nat) (s:RS) (k:Nat),j≠i->rs[j]?=some s->s.val.ownBlock=some k->r'.val.ownBlock≠some k:=λj s k hji hs hsk e=>by
   obtain⟨cs,a,-,-⟩:=(h4 j s hs).ownBlk k hsk;have:=a.lt;rcases hw with hw|hw;exact h5 j i s r k hs hr hji hsk (by rw[<- hw];exact e);have:=hw k e;omega
 rw[QX]at hs ht;by_cases h6:i=j
 ·subst h6
  rw[Gx rfl,Gx hi]at hs;rw[Gw hjl]at ht;cases hs;intro e;exact fresh l t k (Ne.symm hjl) ht e hsk
 rw[Gw h6]at hs;by_cases h7:i=l
 ·subst h7
  rw[Gx rfl,Gx hi]at ht;cases ht;exact fresh j s k (Ne.symm h6) hs hsk
 rw[Gw h7]at ht;exact h5 j l s t k hs ht hjl hsk
end
def MatOA(tS tF:TypeId)(w:World)(base:Nat)(v:Value)(rs:List RS)(Q:List (List Rat)):Prop:=
 RowS tS w base v rs/\rs.length=Q.length/\(∀ (i:Nat) (r:RS),rs[i]?=some r->OwnF tF w base r.val (Q[i]?.getD [])) /\
  ∀ (i j:Nat) (r s:RS) (k:Nat),rs[i]?=some r->rs[j]?=some s->i≠j->r.val.ownBlock=some k->s.val.ownBlock≠some k
section
variable{tS tF:TypeId}{w w':World}{base:Nat}{v v':Value}{rs:List RS}{Q:List (List Rat)}
theorem MatOA.nil(tS tF:TypeId)(w:World)(base:Nat):MatOA tS tF w base (.slice none 0 0) [] []:=⟨.inl ⟨rfl,rfl⟩,rfl,λi r hr=>(by cases hr),λi j r s k hr=>(by cases hr)⟩
theorem MatOA.kept(h:MatOA tS tF w base v rs Q)(hb:Below w.heap.size w w'):MatOA tS tF w' base v rs Q:=⟨h.1.kept hb,h.2.1,λi r hr=>(h.2.2.1 i r hr).kept hb,h.2.2.2⟩
theorem OwnF.grownT(hts:tS≠tF){q:List Rat}{b:Nat}{u:Value}(h:OwnF tF w b u q){rs:List RS}(hv:RowS tS w base v rs)(hg:w.grownBy w' v.ownBlock)(hk:∀ (A:Option Addr) (n c:Nat) (l:List Nat),Lim w A n c l->Lim w' A n c l):OwnF tF w' b u q:=by
 obtain⟨es,e1,e2,e3⟩:=h;refine⟨es,?_,λe he=>⟨⟨(e2 e he).1.1,(e2 e he).1.2.1,hk _ _ _ _ (e2 e he).1.2.2⟩,⟨(e2 e he).2.1,(e2 e he).2.2.1,hk _ _ _ _ (e2 e he).2.2.2⟩⟩,e3⟩;rcases e1 with e1|⟨g2,sp,e4,e5,e6,e7⟩;exact .inl e1;exact .inr ⟨g2,sp,e4,e5,e6,(hg.block g2 e7.lt (λe=>hv.ownType e7 hts e.symm)).trans e7⟩
theorem OwnF.lower{b b':Nat}{u:Value}{q:List Rat}(h:OwnF tF w b u q)(hb:b'<=b):OwnF tF w b' u q:=by
 obtain⟨es,e1,e2,e3⟩:=h;refine⟨es,?_,e2,e3⟩;rcases e1 with e1|⟨g2,sp,e4,e5,e6,e7⟩;exact .inl e1;exact .inr ⟨g2,sp,e4,QD hb e5,e6,e7⟩
theorem MatOA.snoc(h:MatOA tS tF w base v rs Q)(hts:tS≠tF){r:RS}{q:List Rat}{b:Nat}(ho:OwnF tF w b r.val q)(hb:base<=b)(hlt:∀ s ∈ rs,∀ k,s.val.ownBlock=some k->k<b)(h1:RowS tS w' base v' (rs ++ [r]))(hg:w.grownBy w' v.ownBlock)(hk:∀ (A:Option Addr) (n c:Nat) (l:List Nat),Lim w A n c l->Lim w' A n c l) :
    MatOA tS tF w' base v' (rs ++ [r]) (Q ++ [q]):=by
 obtain⟨a1,a2,a3,a4⟩:=h;refine⟨h1,by simp[a2],λi s hs=>?_,λi j s t k hs ht hij hsk=>?_⟩
 ·by_cases hi:i<rs.length
  ·rw[Qj hi]at hs
   rw[Qj Gk];exact(a3 i s hs).grownT hts a1 hg hk
  have hl:=(List.getElem?_eq_some_iff.1 hs).1;rw[Qk,QN]at hl;obtain rfl:i=rs.length:=Gk;rw[Qf (Qb _),Qm]at hs;cases hs;rw[Qf Gk,a2,Qm];exact(ho.lower hb).grownT hts a1 hg hk
 have new:∀ (x:RS) (k:Nat),x ∈ rs->x.val.ownBlock=some k->r.val.ownBlock≠some k:=λx k hx hxk e=>by
   have h2:=hlt x hx k hxk;obtain⟨cs,-,-,h3⟩:=ho.ownBlk k e;omega
 have o:=(List.getElem?_eq_some_iff.1 hs).1;have f:=(List.getElem?_eq_some_iff.1 ht).1;rw[Qk,QN]at o f;by_cases hi:i<rs.length
 ·rw[Qj hi]at hs
  by_cases hj:j<rs.length
  ·rw[Qj hj]at ht
   exact a4 i j s t k hs ht hij hsk
  obtain rfl:j=rs.length:=Gk;rw[Qf (Qb _),Qm]at ht;cases ht;exact new s k (Qr hs) hsk
 obtain rfl:i=rs.length:=Gk;rw[Qf (Qb _),Qm]at hs;cases hs;rw[Qj Gk]at ht;exact λe=>new t k (Qr ht) e hsk
end
def Zf2(n j:Nat):List Rat:=(Ql n).map λk=>if j=k then 1 else 0
def Zbe(Q:List (List Rat))(n i t:Nat):List (List Rat):=(Ql n).map λj=>Q[j]?.getD []++if j<i then Zf2 n j else if j=i then (Zf2 n j).take t else []
theorem Zps(Q:List (List Rat))(n i t:Nat):(Zbe Q n i t).length=n:=by unfold Zbe;simp
theorem Zk4{Q:List (List Rat)}{n i t j:Nat}(hj:j<n):(Zbe Q n i t)[j]?.getD []=Q[j]?.getD []++if j<i then Zf2 n j else if j=i then (Zf2 n j).take t else []:=by
 unfold Zbe;rw[Qe,Qx hj];rfl
theorem Zid(n j:Nat):(Zf2 n j).length=n:=by unfold Zf2;simp
