/- slices.Contains of ints; package covar: the search for far -/
import Derived.Deep.LoopGhost
import Derived.Lib.SlBuf
import Derived.ProofKit
import Derived.Deep.Slices
import Derived.Deep.Fields
import Derived.ChangeSame
import Derived.Test.YthappeninglakaaGreatProg
import Derived.Test.YthappeninglakaaGreatZa12
set_option maxRecDepth 100000
set_option maxHeartbeats 8000000
set_option linter.unusedSimpArgs false
set_option linter.unusedVariables false
namespace Go.Proofs.YthappeninglakaaGreat
open Go.RowKit
open Below renaming refl→Qa
open List renaming getElem?_eq_getElem→Qb,replicate→Qc,getElem?_map→Qe,getElem?_eq_none→Qg,length_map→Qh,map_cons→Qi,length_take→Qj,map_nil→Qk,ext_getElem?→Ql,getElem_of_mem→Qn,map_append→Qp,mem_of_getElem?→Qv,eq_nil_of_length_eq_zero→Qw,map_congr_left→Qx,mem_singleton→Qz,getElem?_append_right→QA,getElem?_set→QC,getElem_mem→QD,map_map→QF,not_mem_nil→QG,getElem?_replicate→QH,take_of_length_le→QJ,take_append_drop→QL,set_append_left→QN,mem_cons→QO,getElem?_range→QP,length_append→QQ,map_set→QR,getElem_take→QS,take_add_one→QT,range→QU,nil_append→QV,append_nil→QW,length_nil→QX
open Nat renaming le_refl→Qd,mul_lt_mul''→Qs,lt_or_ge→Qt,min_eq_left→Qu,zero_add→QE,min→QY
open Act renaming put→Qf
open Option renaming getD_some→Qm,map_some→QI
open Int renaming natAbs_natCast→Qo,natAbs_mul→Qy,toNat_natCast→QB,le_ediv_iff_mul_le→QK
open Blk renaming new→Qq
open Bool renaming true_and→Qr,not_false→QM
attribute [local go_sem] Zi
theorem LimI.takeC{w:World}{A:Option Addr}{n c:Nat}{l:List Int}(h:LimI w A n c l){k:Nat}(hk:k<=n):LimI w A k k (l.take k):=by
 obtain⟨h1,h2,h3,h4,h5⟩:=h;refine⟨by rw[Qj];omega,Qd _,by omega,λx hx=>h4 x (List.mem_of_mem_take hx),λhn=>?_⟩;obtain⟨b,o,e,hc⟩:=h5 Gk;refine⟨b,o,e,λj hj=>?_⟩;rw[hc j Gk,List.getElem?_take,Gx hj]
theorem LimI.atC{w:World}{A:Option Addr}{n c:Nat}{l:List Int}(h:LimI w A n c l){k:Nat}(hk:k<n):∃ g o,A=some ⟨g,o,none⟩/\w.cell? ⟨g,o+k,none⟩=some (.int .i64 (l[k]?.getD 0)):=by
 obtain⟨b,o,e,hc⟩:=h.2.2.2.2 Gk;exact⟨b,o,e,hc k hk⟩
theorem LimI.atCS{w:World}{g o n c:Nat}{l:List Int}(h:LimI w (some ⟨g,o,none⟩) n c l){k:Nat}(hk:k<n):w.cell? ⟨g,o+k,none⟩=some (.int .i64 (l[k]?.getD 0)):=by
 obtain⟨b,o',e,hc⟩:=h.atC hk;cases e;exact hc
theorem LimI.i64C{w:World}{A:Option Addr}{n c:Nat}{l:List Int}(h:LimI w A n c l)(k:Nat):-9223372036854775808<=l[k]?.getD 0/\l[k]?.getD 0<=9223372036854775807:=by
 rcases Qt k l.length with h1|h1
 ·rw[Qb h1,Qm]
  exact h.2.2.2.1 _ (QD _)
 rw[Qg h1];exact⟨by decide,by decide⟩
theorem Zsf(A:Option Addr)(n c:Nat)(l:List Int)(x:Int)(w:World)(h:LimI w A n c l)(b:Bool)(hb:decide (x ∈ l)=b) :
    Calls Tryz.prog 112 #[.slice A n c,.int .i64 x] w (IdxC w b):=by
 have hl:=Zd h.1;have T:=h.2.1;have J:=h.2.2.1;unfold maxLen at J;replace hb:=Zd hb;replace h:=Zd h;go_in;go_wp2_with fail
 go_loopg [8] n (λt iv wr=>∃ i:Nat,i+t=n/\iv=.int .i64 i/\Hid (∀ j:Nat,j<i->l[j]?.getD 0≠x)/\Below w.heap.size w wr)
 case atStart=>exact⟨0,by omega,rfl,Zd (λj hj=>by omega),Qa _ _⟩
 case round =>
  obtain⟨i,U,rfl,u,hB⟩:=hrel;cases gk with
  | zero =>
   obtain rfl:n=i:=Gk;have t1:decide ((n:Int)<(n:Int))=false:=Gh
   obtain rfl:b=false:=by
    rw[<- hb.out];refine Gu (λhx=>?_);obtain⟨j,hj,e⟩:=Qn hx;exact u.out j (by rw[hl.out]at hj;exact hj) (by rw[Qb hj,e];rfl)
   go_wp2_with fail;go_ret;exact⟨-1,rfl,rfl,hB⟩
  | succ t =>
   obtain rfl:t=n-(i+1):=Gk;have I:i<n:=Gk;have t1:decide ((i:Int)<(n:Int))=true:=Gv Gk;have bi:(i:Int)<(n:Int):=Gk;obtain⟨g,o,rfl,c0⟩:=(h.out.below hB).atC I;obtain⟨y,hy⟩:=Gz (l[i]?.getD 0);rw[hy]at c0;by_cases f:x=y
   ·have t2:(x == y)=true:=by simp[f]
    have O:decide (x=y)=true:=by simpa using f
    obtain rfl:b=true:=by
     rw[<- hb.out];refine Gv ?_;have h1:i<l.length:=by rw[hl.out];exact I
     rw[Qb h1,Qm]at hy;rw[f,<- hy];exact QD _
    replace f:=Zd f;replace hy:=Zd hy;go_wp2_with fail;go_ret;exact⟨i,rfl,by simp,hB⟩
   have t2:(x == y)=false:=by simpa using f
   have O:decide (x=y)=false:=by simpa using f
   have C:Hid (∀ j:Nat,j<i+1->l[j]?.getD 0≠x):=Zd (λj hj=>by
    rcases Qt j i with h'|h';exact u.out j h';obtain rfl:j=i:=Gk;rw[hy];exact λe=>f e.symm)
   replace f:=Zd f;replace hy:=Zd hy;go_wp2_with fail
   go_roundg (n-(i+1))
   case measure=>omega
   case rel=>exact⟨i+1,by omega,by go_num,C,hB⟩
theorem Zp0(A:Option Addr)(n c:Nat)(l:List Int)(x:Int)(w:World)(h:LimI w A n c l)(b:Bool)(hb:decide (x ∈ l)=b) :
    Calls Tryz.prog 68 #[.slice A n c,.int .i64 x] w λe w'=>e=.returned (.bool b)/\Below w.heap.size w w':=by
 go_in;go_wp2_with fail;refine(Zsf A n c l x w h b hb).mono ?_;exact EY
theorem Ztj(k:Nat):Qc k (Value.slice none 0 0)=Zar (Qc k Za8):=by
 rw[Zcp,List.map_replicate];rfl
theorem Zhl(k:Nat):madeCells (Value.agg #[.bool false,.slice none 0 0,.bool false,.slice none 0 0]).cells (k*4)=Z0 (Qc k Zat):=by
 apply Array.toList_inj.1;show (madeCells #[.bool false,.slice none 0 0,.bool false,.slice none 0 0] (k*4)).toList=Zr (Qc k Zat);apply Ql;intro i;by_cases h:i<k*4
 ·have he:(Qc k Zat)[i/4]?=some Zat:=by rw[QH,Gx Gk]
  have hc:=Zfi he;have h4:i%4=0 \/ i%4=1 \/ i%4=2 \/ i%4=3:=Gk
  have hm:(madeCells #[.bool false,.slice none 0 0,.bool false,.slice none 0 0] (k*4)).toList[i]?=some ((#[.bool false,.slice none 0 0,.bool false,.slice none 0 0]:Array Value)[i%4]?.getD default):=by
   unfold madeCells;simp[h]
  rw[hm];rcases h4 with h2|h2|h2|h2;rw[show i/4*4=i by omega]at hc;rw[hc.1,h2];rfl;rw[show i/4*4+1=i by omega]at hc;rw[hc.2.1,h2];rfl;rw[show i/4*4+2=i by omega]at hc;rw[hc.2.2.1,h2];rfl;rw[show i/4*4+3=i by omega]at hc;rw[hc.2.2.2,h2];rfl
 have a1:(Zr (Qc k Zat))[i]?=none:=Qg (by rw[Zt];simp;omega);have a2:(madeCells #[.bool false,.slice none 0 0,.bool false,.slice none 0 0] (k*4)).toList[i]?=none:=Qg (by unfold madeCells;simp;omega);rw[a1,a2]
theorem Zvb{P:Program}(t e:TypeId){i:TypeInfo}(ht:P.underlying t=some (.slice e))(hi:P.info? e=some i)(hz:i.zero=some (.agg #[.bool false,.slice none 0 0,.bool false,.slice none 0 0]))(hs:i.size=4)(hb:i.bytes=64)
    (x:Int) (n:Nat) (hx:x=n) (hn:n<=1000000000000) (W:World) :
    (Instr.makeSlice t (.int .i64 x) (.int .i64 x)).run P W=.ok (.slice (some ⟨W.heap.size,0,none⟩) n n) (W.alloc (.cells (Z0 (Qc n Zat)) e)):=by
 subst hx;have hr:=run_make (P:=P) W t e i _ ht hi hz .i64 .i64 n n Gk Gk (by rw[hb];omega) Gk;simp only[QB]at hr;rw[hr,hs,Zhl]
theorem Zqt{P:Program}(t e:TypeId){i:TypeInfo}(ht:P.underlying t=some (.slice e))(hi:P.info? e=some i)(hz:i.zero=some (.slice none 0 0))(hs:i.size=1)(hb:i.bytes=24)
    (x:Int) (n:Nat) (hx:x=n) (hn:n<=1000000000000) (W:World) :
    (Instr.makeSlice t (.int .i64 x) (.int .i64 x)).run P W=.ok (.slice (some ⟨W.heap.size,0,none⟩) n n) (W.alloc (.cells (Z7 (Qc n Za8)) e)):=by
 subst hx;have hr:=run_make (P:=P) W t e i _ ht hi hz .i64 .i64 n n Gk Gk (by rw[hb];omega) Gk;simp only[QB]at hr;rw[hr,hs,Nat.mul_one]
 have:madeCells (Value.slice none 0 0).cells n=Z7 (Qc n Za8):=by
  apply Array.toList_inj.1;show (madeCells #[.slice none 0 0] n).toList=Zar (Qc n Za8);rw[<- Ztj];apply Ql;intro j;unfold madeCells;by_cases h:j<n;simp[h,Nat.mod_one];simp[h]
 rw[this]
section
variable{P:Program}(w:World)
theorem Zor(dT sT ty elem:TypeId)(i:TypeInfo)(g o dLen dCap:Nat)(a:Addr)(sLen sCap:Nat)(cur:Array Value)(t:TypeId)(cs:List Value)
    (hu:P.underlying dT=some (.slice elem)) (hi:P.info? elem=some i) (hg:w.heap[g]?=some (.cells cur t (0,0))) (hn:cs.length=QY sLen dLen*i.size)
    (hsrc:∀ j v,cs[j]?=some v->w.cell? (a.add j)=some v) (hfit:o+cs.length<=cur.size) (h1:∀ v ∈ cs,v.oneCell'=true) :
    (Builtin.copy_ #[dT,sT] ty #[.slice (some ⟨g,o,none⟩) dLen dCap,.slice (some a) sLen sCap]).run P w =
     .ok (goInt (QY sLen dLen)) (w.setRow g (cur.toList.take o++cs++cur.toList.drop (o+cs.length)).toArray):=by
 have hl:=run_loadCells_list (P:=P) w a cs hsrc;have e:=run_storeCells_at P g o t cs 0 cur w hg (by simpa using hfit) h1;simp[Builtin.copy_,run_underlying hu,Builtin.lenOf,Builtin.firstCells,sizeOf,typeInfo,hi,<- hn,hl,e]
theorem Ziw(t ty e:TypeId)(i:TypeInfo)(hu:P.underlying t=some (.slice e))(hi:P.info? e=some i)(hs:i.size=4){tF:TypeId}{g k d dc:Nat}{es:List FE}(hb:Blk w g tF (Z0 es))
    (B:Nat) (A:Option Addr) (m c:Nat) (fs:List FE) (hr:Reads w B 4 A m (Zr fs)) (hm:fs.length=m) (hm0:0<m) (hd:m<=d) (hk:k+m<=es.length) :
    (Builtin.copy_ #[t,t] ty #[.slice (some ⟨g,k*4,none⟩) d dc,.slice A m c]).run P w=.ok (goInt m) (w.setRow g (Z0 (es.take k++fs++es.drop (k+m)))):=by
 obtain⟨ad,rfl,_,hc⟩:=hr.2 hm0;have hl:(Zr fs).length=m*4:=by rw[Zt,hm]
 have:=Zor (P:=P) w t t ty e i g (k*4) d dc ad m c _ tF (Zr fs) hu hi hb (by rw[hl,hs,show QY m d=m from Qu hd]) hc
  (by rw[hl];show k*4+m*4<=(Z0 es).size;unfold Z0;simp only[List.size_toArray];rw[Zt];omega) (Zjn fs)
 rw[this,show QY m d=m from Qu hd];congr 2;unfold Z0
 have e1:Zr (es.take k)=(Zr es).take (k*4):=by
  have h1:Zr es=Zr (es.take k)++Zr (es.drop k):=by rw[<- Zap,QL]
  have h2:(Zr (es.take k)).length=k*4:=by rw[Zt,Qj,Qu Gk]
  rw[h1,<- h2,List.take_left]
 have e2:Zr (es.drop (k+m))=(Zr es).drop (k*4+m*4):=by
  have h1:Zr es=Zr (es.take (k+m))++Zr (es.drop (k+m)):=by rw[<- Zap,QL]
  have h2:(Zr (es.take (k+m))).length=k*4+m*4:=by rw[Zt,Qj,Qu Gk];omega
  rw[h1,<- h2,List.drop_left]
 rw[hl,Zap,Zap,e1,e2]
end
theorem Kept.setRow{G:Nat->Prop}{w0 w:World}(h:Kept G w0 w){g:Nat}(hg:G g \/ w0.heap.size<=g)(cs:Array Value):Kept G w0 (w.setRow g cs):=
 ⟨h.os,h.tape,h.output,by simp[World.setRow];exact h.size,λk hk hG=>(setRow_other w g k cs (by rcases hg with hg|hg;exact λe=>hG (e▸hg);omega)).trans (h.block k hk hG)⟩
theorem Zoe{w:World}{g:Nat}{t:TypeId}{cs cs':Array Value}(h:Blk w g t cs):Blk (w.setRow g cs') g t cs':=setRow_heap w g _ _ t _ h
theorem Znv{w:World}{g k:Nat}{t:TypeId}{cs cs':Array Value}(h:Blk w k t cs)(hne:k≠g):Blk (w.setRow g cs') k t cs:=(setRow_other w g k _ hne).trans h
theorem FL.readsK{w:World}{A:Option Addr}{n c:Nat}{qs:List Rat}(h:FL w A n c qs){go:Nat}{t:TypeId}{rs:List RS}(hb:Blk w go t (Z7 rs)) :
    ∃ fs:List FE,fs.length=n/\fs.map FE.q=qs/\∀ w',Kept (λk=>k=go) w w'->Reads w' w'.heap.size 4 A n (Zr fs)/\∀ e ∈ fs,e.in_ w':=by
 obtain⟨es,h1,h2,h3,h4,h5,h6⟩:=h;refine⟨es,h1,h5,λw' hk=>?_⟩;have hG:∀ k,k=go->∃ t cs,Blk w k t cs/\NoLimb cs:=λk hk=>⟨t,Z7 rs,by rw[hk];exact hb,Zbe _⟩;refine⟨⟨by rw[Zt,h1],λhn=>?_⟩,λe he=>⟨hk.wd (h4 e he).1 hG,hk.wd (h4 e he).2 hG⟩⟩;obtain⟨g,o,e1,hc⟩:=h6 hn
 have y:g≠go:=λe=>by
  have h0:=(hc 0 es[0] (Qb Gk)).1;rw[e,hb.cell]at h0;unfold Z7 at h0;rw[Zcp]at h0;simp only[List.getElem?_toArray,Qe]at h0;cases hx:rs[o+0*4]? with
  | none=>rw[hx]at h0;cases h0
  | some r=>rw[hx]at h0;cases h0
 have f:∀ (i:Nat) (v:Value),w.cell? ⟨g,i,none⟩=some v->w'.cell? ⟨g,i,none⟩=some v:=λi v hv=>by
  rw[<- hv];exact World.cell?_of_block (hk.block g (Zp hv) y)
 refine⟨⟨g,o,none⟩,e1,?_,λj u hu=>?_⟩
 ·have:=(hc 0 es[0] (Qb Gk)).1
  exact Nat.lt_of_lt_of_le (Zp this) hk.size
 rw[Zi]
 have hj:j<es.length*4:=by
  have:=(List.getElem?_eq_some_iff.1 hu).1
  rwa [Zt]at this
 have he:=Qb (show j/4<es.length by omega);have hg:=Zfi he;have hm:=hc (j/4) _ he;have h4:j%4=0 \/ j%4=1 \/ j%4=2 \/ j%4=3:=Gk;rcases h4 with h2|h2|h2|h2;rw[show j/4*4=j by omega]at hg hm;rw[hg.1]at hu;cases hu;exact f _ _ hm.1;rw[show j/4*4+1=j by omega]at hg hm;rw[hg.2.1]at hu;cases hu;exact f _ _ hm.2.1;rw[show j/4*4+2=j by omega]at hg hm;rw[hg.2.2.1]at hu;cases hu;exact f _ _ hm.2.2.1;rw[show j/4*4+3=j by omega]at hg hm;rw[hg.2.2.2]at hu;cases hu;exact f _ _ hm.2.2.2
theorem MatB.mfl{tS tF:TypeId}{w:World}{go n c:Nat}{L:List RF}(h:MatB tS tF w go L)(hl:L.length=n)(hc:n<=c)(hm:c<=maxLen):MFL w (some ⟨go,0,none⟩) n c (L.map RF.q):=by
 refine⟨by rw[Qh,hl],hc,hm,λ_=>⟨go,0,rfl,λk q hq=>?_⟩⟩;rw[Qe]at hq;obtain⟨r,hr,rfl⟩:=Option.map_eq_some_iff.1 hq;have h1:=(h.cell hr).1;obtain⟨h2,h3,h4⟩:=h.row hr;exact⟨_,_,_,by rw[QE];exact h1,h2.fl h3 h4⟩
theorem Zw5(F:FuncId)(cap:Value)(A:Option Addr)(n c m s:Nat)(Q:List (List Rat))(S:Nat->List Rat)(w:World)(h:MFL w A n c Q)(hn9:n<=900)(hm:∀ i,i<n->(Q[i]?.getD []).length=m)(hm0:0<m)(hm9:m<=900)(hs0:0<s)(hs9:s<=900)(hS:∀ i,i<n->(S i).length=s)
    (hcf:∀ (x:Value) (W:World),(callFunc F #[x,cap]).run Tryz.prog W=.ok (.enter F #[x,cap]) W)
    (hF:∀ (W:World) (i:Nat),Below w.heap.size w W->i<n->Calls Tryz.prog F #[.int .i64 i,cap] W λe W'=>∃ A c,e=.returned (.slice A s c)/\Below W.heap.size W W'/\FL W' A s c (S i)) :
    Calls Tryz.prog 83 #[.slice A n c,.func (.func F) #[] #[cap]] w λe w'=>∃ go L,e=.returned (.slice (some ⟨go,0,none⟩) n n)/\Below w.heap.size w w'/\w.heap.size<=go/\L.length=n/\MatB 35 41 w' go L/\L.map RF.q=(QU n).map λi=>Q[i]?.getD []++S i:=by
 obtain⟨iF,hi,e8,b8,e5⟩:=info_parts Ze1;obtain⟨iS,ki,e7,e9,f3⟩:=info_parts Ziq;have hl:=Zd h.1;have f5:=h.2.1;have e1:=h.2.2.1;unfold maxLen at e1;have f4:(35:TypeId)≠41:=Gj;replace hm:=Zd hm;replace h:=Zd h;replace hS:=Zd hS;replace hF:=Zd hF;obtain⟨W0,J⟩:=Gz (w.alloc (.cells (Z7 (Qc n Za8)) 35));obtain⟨go,C⟩:=Gz w.heap.size;have q0:Hid (Blk W0 go 35 (Z7 (Qc n Za8))):=Zd (by rw[<- J,<- C];exact Qq _ _ _);have c9:Hid (Below w.heap.size w W0):=Zd (by rw[<- J];exact(Qa _ _).alloc (Qd _) _);have s0:Hid (W0.heap.size=go+1):=Zd (by rw[<- J,<- C];simp);have d7:=Zqt (P:=Tryz.prog) 25 35 Tryz.underlying25 ki e7 e9 f3 (n:Int) n rfl Gk;go_in;go_wp2_with fail;(try rw[J]);(try rw[C]);replace C:=Zd C;clear J d7
 go_loopg [14] n (λk iv wr=>∃ (i:Nat) (L:List RF),i+k=n/\iv=.int .i64 i/\Hid (L.length=i)/\Blk wr go 35 (Z7 (L.map RF.rs++Qc (n-i) Za8))/\Hid (∀ r ∈ L,(FOwn 41 wr r.g r.q/\r.q.length<=r.c/\r.c<=maxLen)/\W0.heap.size<=r.g)/\Hid ((L.map RF.g).Nodup)/\Hid (L.map RF.q=(QU i).map λi=>Q[i]?.getD []++S i)/\Kept (λk=>k=go) W0 wr)
 case atStart=>exact⟨0,[],by omega,rfl,Zd rfl,q0.out,Zd (λr hr=>(by cases hr)),Zd List.nodup_nil,Zd rfl,Kept.refl _ _⟩
 case round =>
  obtain⟨i,L,f6,rfl,u,y,f,d8,d9,hK⟩:=hrel;have b7:Below w.heap.size w wr:=c9.out.trans (hK.to_below (λk hk=>by rw[hk,C.out];exact Qd _) c9.out.size);cases gk with
  | zero =>
   obtain rfl:i=n:=Gk;have t1:decide ((i:Int)<(i:Int))=false:=Gh;replace y:=Zd y;go_wp2_with fail;go_ret;refine⟨go,L,rfl,b7,by rw[C.out];exact Qd _,u.out,⟨⟨_,y.out⟩,λr hr=>(f.out r hr).1,?_⟩,d9.out⟩;refine List.nodup_cons.2 ⟨λhmm=>?_,d8.out⟩;obtain⟨r,hr,e⟩:=List.mem_map.1 hmm;have:=(f.out r hr).2;have:=s0.out;omega
  | succ j =>
   obtain rfl:j=n-(i+1):=Gk;have Y:i<n:=Gk;have t1:decide ((i:Int)<(n:Int))=true:=Gv Gk;have bi:(i:Int)<(n:Int):=Gk;obtain⟨ga,oa,A1,n1,c1,rfl,k0,a7⟩:=(h.out.below b7).at_ Y;have e3:n1=m:=by rw[<- a7.len];exact hm.out i Y
   subst e3;replace a7:=Zd a7;replace y:=Zd y;go_wp2_with fail;refine(hF.out wr i b7 Y).mono ?_;rintro e w1 ⟨As,cs,rfl,a3,c8⟩;have o:=Ze a3 y.out;obtain⟨fs,a0,d4,c2⟩:=(a7.out.below a3).readsK o;obtain⟨gs,d3,c5,b4⟩:=c8.readsK o;obtain⟨gN,e4⟩:=Gz w1.heap.size;obtain⟨W2,c3⟩:=Gz (w1.alloc (.cells (Z0 (Qc (n1+s) Zat)) 41));have c0:Below w1.heap.size w1 W2:=by rw[<- c3];exact(Qa _ _).alloc (Qd _) _
   have e0:Blk W2 gN 41 (Z0 (Qc (n1+s) Zat)):=by rw[<- c3,<- e4];exact Qq _ _ _
   have I:=Ze c0 o;have c7:=o.lt;have e2:go<gN:=Gk;have x0:=I.cell i;have x1:=I.frozen i;rw[show (Z7 (L.map RF.rs++Qc (n-i) Za8))[i]?=some (.slice none 0 0) from Zb8 (e:=Za8) (by rw[QA (by rw[Qh,u.out];exact Qd _),Qh,u.out,Nat.sub_self,QH,Gx Gk])]at x0;have e6:(Q[i]?.getD []++S i).length=n1+s:=by rw[QQ,hm.out i Y,hS.out i Y]
   obtain⟨W3,b6⟩:∃ X,W2.setCell ⟨go,i,none⟩ (.slice (some ⟨gN,0,none⟩) (n1+s) (n1+s))=X:=⟨_,rfl⟩
   have a1:(L.map RF.rs++Qc (n-i) Za8).set i ⟨some ⟨gN,0,none⟩,n1+s,n1+s⟩=(L ++ [RF.mk gN (n1+s) (Q[i]?.getD []++S i)]).map RF.rs++Qc (n-(i+1)) Za8:=by
    rw[List.set_append_right _ _ (by rw[Qh,u.out];exact Qd _),Qh,u.out,Nat.sub_self,show n-i=n-(i+1)+1 by omega,List.replicate_succ,List.set_cons_zero,Qp,List.append_assoc];simp only[Qi,Qk,RF.rs,e6];rfl
   have O:Blk W3 go 35 (Z7 ((L ++ [RF.mk gN (n1+s) (Q[i]?.getD []++S i)]).map RF.rs++Qc (n-(i+1)) Za8)):=by
    have:=I.set_ i (.slice (some ⟨gN,0,none⟩) (n1+s) (n1+s));rw[Zdz ⟨some ⟨gN,0,none⟩,n1+s,n1+s⟩,b6,a1]at this;exact this
   have a4:Blk W3 gN 41 (Z0 (Qc (n1+s) Zat)):=by rw[<- b6];exact e0.far (by show gN≠go;omega) _
   have b5:Kept (λk=>k=go) w1 W3:=by
    rw[<- b6];exact Kept.set_ (G:=λk=>k=go) (Kept.of_below c0) (p:=⟨go,i,none⟩) (Or.inl rfl) _
   have U:∀ W,Blk W go 35 (Z7 ((L ++ [RF.mk gN (n1+s) (Q[i]?.getD []++S i)]).map RF.rs++Qc (n-(i+1)) Za8))->W.cell? ⟨go,i,none⟩=some (.slice (some ⟨gN,0,none⟩) (n1+s) (n1+s)):=λW hW=>by
    rw[hW.cell];refine Zb8 (e:=⟨some ⟨gN,0,none⟩,n1+s,n1+s⟩) ?_;rw[<- a1,List.getElem?_set_self (by simp[u.out];omega)]
   have x3:=U W3 O;have b2:=λty=>Ziw (P:=Tryz.prog) W3 35 ty 41 iF Tryz.underlying35 hi b8 a4 W3.heap.size A1 n1 c1 fs (c2 W3 b5).1 a0 hm0 (d:=n1+s) (dc:=n1+s) (k:=0) Gk Gh;rw[Nat.zero_mul,List.take_zero,QV,QE,List.drop_replicate,Nat.add_sub_cancel_left]at b2;obtain⟨W4,b0⟩:=Gz (W3.setRow gN (Z0 (fs++Qc s Zat)));rw[b0]at b2;have V:Blk W4 gN 41 (Z0 (fs++Qc s Zat)):=by rw[<- b0];exact Zoe a4
   have a5:=show Blk W4 go 35 _ by rw[<- b0];exact Znv O Gk
   have b9:Kept (λk=>k=go) w1 W4:=by rw[<- b0];exact b5.setRow (.inr Gk) _
   have x4:=U W4 a5;have b1:=λty=>Ziw (P:=Tryz.prog) W4 35 ty 41 iF Tryz.underlying35 hi b8 V W4.heap.size As s cs gs (b4 W4 b9).1 d3 hs0 (d:=s) (dc:=s) (k:=n1) (Qd _) (by simp[a0]);rw[List.take_left' a0,show n1+s=(fs++Qc s Zat).length by simp[a0],List.drop_length,QW]at b1;obtain⟨W5,a8⟩:=Gz (W4.setRow gN (Z0 (fs++gs)));rw[a8]at b1;have b3:Blk W5 gN 41 (Z0 (fs++gs)):=by rw[<- a8];exact Zoe V
   have T:=show Blk W5 go 35 _ by rw[<- a8];exact Znv a5 Gk
   have a6:Kept (λk=>k=go) w1 W5:=by rw[<- a8];exact b9.setRow (.inr Gk) _
   have d7:=Zvb (P:=Tryz.prog) 35 41 Tryz.underlying35 hi e8 b8 e5 ((n1:Int)+(s:Int)) (n1+s) Gk Gk;have bx:(i:Int)<(n:Int):=bi
   have d0:FOwn 41 W5 gN (Q[i]?.getD []++S i):=⟨fs++gs,[],by rw[QW];exact b3,λe he=>by
    rcases List.mem_append.1 he with he|he;exact(c2 W5 a6).2 e he;exact(b4 W5 a6).2 e he,by rw[Qp,d4,c5]⟩
   have d5:∀ k,k=go->∃ t cs,Blk wr k t cs/\NoLimb cs:=λk hk=>⟨_,_,hk▸y.out,Zbe _⟩;have a2:Kept (λk=>k=go) wr W5:=(Kept.of_below a3).trans (a6.mono (λk _ h=>h))
   have a9:Hid (∀ r ∈ L ++ [RF.mk gN (n1+s) (Q[i]?.getD []++S i)],(FOwn 41 W5 r.g r.q/\r.q.length<=r.c/\r.c<=maxLen)/\W0.heap.size<=r.g):=Zd (λr hr=>by
    rcases List.mem_append.1 hr with hr|hr
    ·obtain⟨⟨r1,r2⟩,r3⟩:=f.out r hr
     have:=s0.out;exact⟨⟨r1.keptG a2 Gk d5,r2⟩,r3⟩
    rw[Qz]at hr;subst hr;have h7:=hK.size;have h8:=a3.size;exact⟨⟨d0,by show (Q[i]?.getD []++S i).length<=n1+s;omega,by show n1+s<=maxLen;unfold maxLen;omega⟩,by show W0.heap.size<=gN;omega⟩)
   have d6:Hid (((L ++ [RF.mk gN (n1+s) (Q[i]?.getD []++S i)]).map RF.g).Nodup):=Zd (by
    rw[Qp,List.nodup_append];refine⟨d8.out,by simp,λa ha b hb=>?_⟩;obtain⟨r,hr,rfl⟩:=List.mem_map.1 ha;simp only[Qi,Qk,Qz]at hb;have h6:=(f.out r hr).1.1.lt;have h7:=a3.size;omega)
   have c6:Hid ((L ++ [RF.mk gN (n1+s) (Q[i]?.getD []++S i)]).map RF.q=(QU (i+1)).map λi=>Q[i]?.getD []++S i):=Zd (by
    rw[Qp,d9.out,List.range_succ,Qp];rfl)
   have f0:Hid (Kept (λk=>k=go) W0 W5):=Zd (hK.trans a2);have c4:Hid ((L ++ [RF.mk gN (n1+s) (Q[i]?.getD []++S i)]).length=i+1):=Zd (by rw[QQ,u.out];rfl);replace T:=Zd T;clear c2 b4 a0 d4 d3 c5 o c0 e0 I a1 O a4 b5 U V a5 b9 b3 a6 d0 d5 a2 c8 c7;go_wp2_with fail
   go_roundg (n-(i+1))
   case measure=>omega
   case rel=>exact⟨i+1,L ++ [RF.mk gN (n1+s) (Q[i]?.getD []++S i)],by omega,by go_num,c4,T.out,a9,d6,c6,f0.out⟩
def idxOk(n:Nat)(ls:List Int)(k:Nat):Prop:=(0<=ls[k]?.getD 0/\ls[k]?.getD 0<n)/\∀ j:Nat,j<k->ls[j]?.getD 0≠ls[k]?.getD 0
instance (n:Nat) (ls:List Int) (k:Nat):Decidable (idxOk n ls k):=by unfold idxOk;infer_instance
def Zhe(n:Nat)(ls:List Int):Bool:=decide (0<ls.length) && decide (ls.length<=n) && decide (∀ k,k<ls.length->idxOk n ls k)
def Zf9(rs:List RX)(ls:List Int):Int:=if Za9 rs=0 then (if Zhe rs.length ls=true then 0 else 8)else Za9 rs
def Zcx(Q:List (List Rat))(ls:List Int)(a:Int):List Rat:=ls.map λb=>Zj Q a.toNat b.toNat
def Zka(Q:List (List Rat))(ls:List Int):List (List Rat):=ls.map (Zcx Q ls)
section
variable{rs:List RX}{ls:List Int}{n:Nat}
theorem Zxd{E:Int}(h:Za9 rs=E)(h0:E≠0):Zf9 rs ls=E:=by subst h;unfold Zf9;rw[Gw h0]
theorem Zfy(h:Za9 rs=0)(hb:Zhe rs.length ls=false):Zf9 rs ls=8:=by unfold Zf9;rw[Gx h,hb];rfl
theorem Zn8(h:Za9 rs=0)(hb:Zhe rs.length ls=true):Zf9 rs ls=0:=by unfold Zf9;rw[Gx h,hb];rfl
theorem Zxw(h:ls.length=0):Zhe n ls=false:=by unfold Zhe;rw[h];rfl
theorem Zvf(h:n<ls.length):Zhe n ls=false:=by unfold Zhe;rw[Gu (show ¬ ls.length<=n by omega)];simp
theorem Zla{k:Nat}(hk:k<ls.length)(h:¬ idxOk n ls k):Zhe n ls=false:=by
 unfold Zhe;rw[Gu (p:=∀ k,k<ls.length->idxOk n ls k) (λh2=>h (h2 k hk))];simp
theorem Zrl(h0:0<ls.length)(h1:ls.length<=n)(h:∀ k,k<ls.length->idxOk n ls k):Zhe n ls=true:=by
 unfold Zhe;rw[Gv h0,Gv h1,Gv h];rfl
theorem idxOk.mem{k:Nat}(hk:k<ls.length):(ls[k]?.getD 0 ∈ ls.take k) ↔ ∃ j,j<k/\ls[j]?.getD 0=ls[k]?.getD 0:=by
 constructor
 ·intro h
  obtain⟨j,hj,e⟩:=Qn h;rw[Qj]at hj;refine⟨j,by omega,?_⟩;rw[QS]at e;rw[<- e,Qb (show j<ls.length by omega)];rfl
 rintro⟨j,hj,e⟩;rw[<- e,Qb (show j<ls.length by omega),Qm];have:ls[j]=(ls.take k)[j]'(by rw[Qj];omega):=by rw[QS]
 rw[this];exact QD _
theorem Zlv{Q:List (List Rat)}{a:Int}:(Zcx Q ls a).length=ls.length:=by simp[Zcx]
theorem Zpj{Q:List (List Rat)}:(Zka Q ls).length=ls.length:=by simp[Zka]
theorem Zrd{Q:List (List Rat)}{a:Int}{k:Nat}(hk:k<ls.length):(Zcx Q ls a).take k ++ [Zj Q a.toNat (ls[k]?.getD 0).toNat]=(Zcx Q ls a).take (k+1):=by
 rw[QT];unfold Zcx;rw[Qe,Qb hk];rfl
theorem Zt4{Q:List (List Rat)}{k:Nat}(hk:k<ls.length):(Zka Q ls).take k ++ [Zcx Q ls (ls[k]?.getD 0)]=(Zka Q ls).take (k+1):=by
 rw[QT];unfold Zka;rw[Qe,Qb hk];rfl
end
theorem Z1c{P:Program}(t e:TypeId){i:TypeInfo}(ht:P.underlying t=some (.slice e))(hi:P.info? e=some i)(hz:i.zero=some (.agg #[.bool false,.slice none 0 0,.bool false,.slice none 0 0]))(hs:i.size=4)(hb:i.bytes=64)
    (n:Nat) (hn:n<=1000000000000) (W:World) :
    (Instr.makeSlice t (.int .i64 0) (.int .i64 (n:Int))).run P W=.ok (.slice (some ⟨W.heap.size,0,none⟩) 0 n) (W.alloc (.cells (Z0 (Qc n Zat)) e)):=by
 have hr:=run_make (P:=P) W t e i _ ht hi hz .i64 .i64 0 n Gk Gk (by rw[hb];omega) Gk;simp only[QB,Int.toNat_zero]at hr;rw[hr,hs,Zhl]
theorem Zw3(t:TypeId)(w:World)(n:Nat)(hn:n<=maxLen):OwnF t (w.alloc (.cells (Z0 (Qc n Zat)) t)) w.heap.size (.slice (some ⟨w.heap.size,0,none⟩) 0 n) []:=
 ⟨[],.inr ⟨w.heap.size,n,by rw[QX,QE],Qd _,by rw[QX,QE];exact hn,by rw[QV];exact Qq _ _ _⟩,λe he=>(by cases he),rfl⟩
open Go.ChangeShapes Go.WideShapes Go.Deep Go.RowKit
section
variable{H:Type}{enc:TypeId × Value->H}{P:Program}{w:World}{base:Nat}{spare:Nat->Bool}{held:Bool}
end
section
variable{H:Type}{enc:TypeId × Value->H}{P:Program}
theorem Zom{f:Func}{s:ChangeSpec}{apart fresh handsOn again:Bool}{W W':World}{args:Array Value}{v:Value}{ds gs:List (DataW H)}{before pa pv:List MemPlace}
    (hW:DataW.Whole enc P f.params.toList s.vars apart W args.toList ds gs before)
    (hres:∀ (b:Nat) (sp:Nat->Bool) (hd:Bool),DataW.TrodAll enc P W' b sp hd f.resultTypes.toList (v.resultList f.resultTypes.size) (s.fn H (ds++gs)).results [])
    (hargs:∀ sp:Nat->Bool,(∀ p ∈ before,sp p.block=true)->DataW.TrodAll enc P W' 0 sp true f.params.toList args.toList (s.fn H (ds++gs)).args pa)
    (hvars:∀ sp:Nat->Bool,(∀ p ∈ before,sp p.block=true)->DataW.TrodVars enc P W' sp s.vars (s.fn H (ds++gs)).vars pv)
    (hps:before=pa++pv) (hb:Below W.heap.size W W')
    (hok:∀ (j:Nat) (t:TypeId) (r:Value),f.resultTypes[j]?=some t->(v.resultList f.resultTypes.size)[j]?=some r->Value.okWide P W' .any 0 t r) :
    s.post enc P f apart fresh handsOn again W args v W':=by
 have h:∀ p ∈ before,p.block<W.heap.size:=λp hp=>hW.lt p hp;have e:∀ p ∈ before,(λb=>decide (b<W.heap.size)) p.block=true:=λp hp=>by simpa using h p hp
 refine⟨ds,gs,before,[],pa,pv,hW,hres _ _ _,hargs _ e,hvars _ e,World.keptBut_mono (λp hp=>⟨hp,?_⟩) (hb.frame (· ∈ before)),λ_=>?_⟩
 ·rw[hps,List.mem_append]at hp
  exact Or.inr hp
 obtain⟨_,_,_,_,_,hz,hn⟩:=hW;refine⟨hok,_,_,([]++pa)++pv,⟨[]++pa,pv,trodAll_append (hargs _ (λ_ _=>rfl)) (hres _ _ _),hvars _ (λ_ _=>rfl),rfl,?_,?_⟩,?_⟩
 ·intro b off hp
  have o:MemPlace.cell b off ∈ before:=by rw[hps];simpa using hp
  rw[hb.frozen (h _ o)];exact hz b off o
 ·intro ha
  have:=hn ha;rw[hps]at this;simpa using this
 intro p hp _;rw[hps];simpa using hp
end
theorem Zmb{α:Type}(P:Nat->α->Prop)(n:Nat)(h:∀ i,i<n->∃ e,P i e):∃ es:List α,es.length=n/\∀ (k:Nat) (e:α),es[k]?=some e->P k e:=by
 induction n with
 | zero=>exact⟨[],rfl,λk e h=>by simp at h⟩
 | succ n ih =>
  obtain⟨es,h1,h2⟩:=ih λi hi=>h i Gk;obtain⟨e,he⟩:=h n Gk;refine⟨es ++ [e],by simp[h1],λk e' hk=>?_⟩;rcases Qt k es.length with o|f;rw[List.getElem?_append_left o]at hk;exact h2 k e' hk;rw[QA f]at hk;rcases Nat.eq_or_lt_of_le f with h0|h0
  ·rw[show k-es.length=0 by omega]at hk
   simp at hk;subst hk;rw[<- h0,h1];exact he
  rw[Qg Gg]at hk;cases hk
theorem Zjp{w:World}{a:Addr}{v:Value}(h:w.cell? a=some v):a=⟨a.block,a.off,none⟩:=by
 obtain⟨b,o,s⟩:=a;cases s with
 | none=>rfl
 | some s =>
  exfalso;unfold World.cell? at h;simp at h
  split at h <;> simp at h
section
variable{H:Type}{enc:TypeId × Value->H}{w:World}{base:Nat}{spare:Nat->Bool}{held:Bool}
end
theorem Fk{G:Prop}(h:G:=by
 have h1:=h.1.ok;have h2:=h.2.ok;have h3:=h.1.sgEq;rw[Int.natAbs_natCast]at h2;have hd:=r.den_pos;have hr:=r.reduced;unfold Nat.Coprime at hr;refine⟨?_,?_⟩
 ·unfold okF
  rw[h1,h2,h.neg,Zk,Zk];simp[length_digits_pos,hd,hr]
 unfold qOf;rw[h3,Zk];exact Rat.num_divInt_den r):G:=h
theorem Fr.rawC{w:World}{na:Bool}{A:Option Addr}{n c:Nat}{nb:Bool}{B:Option Addr}{m d:Nat}{r:Rat}(h:Fr w na A n c nb B m d r):okF na (digits r.num.natAbs) nb (digits r.den)=true/\qOf na (digits r.num.natAbs) (digits r.den)=r:=by
 exact Fk
def Zjh(q:Rat):Nat:=max (digits q.num.natAbs).length (digits q.den).length
def Zkr(e:FX):Nat × Bool × Rat:=(e.few,e.ok,e.q)
def Zl4(r:RX):Nat × List (Nat × Bool × Rat):=(r.n,r.es.map Zkr)
def Zfw(rs:List RX):List (Nat × List (Nat × Bool × Rat)):=rs.map Zl4
def Zfv(Q:List (List Rat)):List (Nat × List (Nat × Bool × Rat)):=Q.map λr=>(r.length,r.map λq=>(Zjh q,true,q))
theorem sig_qM{rs:List RX}:qM rs=(Zfw rs).map λx=>x.2.map λy=>y.2.2:=by
 unfold qM Zfw;rw[QF];refine Qx λr _=>?_;simp[Zl4,Zkr,Function.comp_def]
theorem Zro{rs:List RX}:long6 rs=(decide (6<(Zfw rs).length) || (Zfw rs).any λx=>decide (6<x.1)):=by
 unfold long6 Zfw;rw[Qh,List.any_map];rfl
theorem sig_row{k:Nat}{r:RX}:Zdb k r=(decide ((Zl4 r).1=k) && (Zl4 r).2.all λy=>decide (y.1<=64) && y.2.1):=by
 unfold Zdb Zc2 Zl4;simp only[List.all_map];rfl
theorem Zsa{k:Nat}{rs:List RX}:rs.all (Zdb k)=(Zfw rs).all λx=>decide (x.1=k) && x.2.all λy=>decide (y.1<=64) && y.2.1:=by
 unfold Zfw;rw[List.all_map];congr 1
 funext r
 exact sig_row
theorem FA{G:Prop}(h:G:=by
 obtain⟨g,o,e1,hc⟩:=h5 hn;refine⟨g,o,e1,λk x hx=>?_⟩;rw[List.getElem?_map]at hx;obtain⟨e,he,rfl⟩:=Option.map_eq_some_iff.1 hx;exact hc k e he):G:=h
theorem FL.fxs{w:World}{A:Option Addr}{n c:Nat}{qs:List Rat}(h:FL w A n c qs):∃ es,FXL w A n c es/\es.map FX.q=qs/\es.map Zkr=qs.map λq=>(Zjh q,true,q):=by
 obtain⟨fs,h1,h2,h3,h4,rfl,h5⟩:=h
 have hk:∀ e ∈ fs,FX.in_ w ⟨e.na,e.A,e.n,e.c,digits e.q.num.natAbs,e.nb,e.B,e.m,e.d,digits e.q.den⟩/\FX.q ⟨e.na,e.A,e.n,e.c,digits e.q.num.natAbs,e.nb,e.B,e.m,e.d,digits e.q.den⟩=e.q/\Zkr ⟨e.na,e.A,e.n,e.c,digits e.q.num.natAbs,e.nb,e.B,e.m,e.d,digits e.q.den⟩=(Zjh e.q,true,e.q):=λe he=>by
  have h0:Fr w e.na e.A e.n e.c e.nb e.B e.m e.d e.q:=h4 e he;have h2:=h0.2.2.2;rw[Qo]at h2;have h6:=h0.rawC;refine⟨⟨h0.1.2.2,h2⟩,h6.2,?_⟩;unfold Zkr FX.few FX.ok FX.q Zjh;rw[h6.1,h6.2];have e1:=h0.1.2.2.len;have e2:=h2.len;rw[e1,e2]
 refine⟨fs.map λe=>⟨e.na,e.A,e.n,e.c,digits e.q.num.natAbs,e.nb,e.B,e.m,e.d,digits e.q.den⟩,⟨by rw[Qh];exact h1,h2,h3,λx hx=>?_,λhn=>?_⟩,?_,?_⟩
 ·obtain⟨e,he,rfl⟩:=List.mem_map.1 hx
  exact(hk e he).1
 exact FA
 ·rw[QF]
  exact Qx λe he=>(hk e he).2.1
 rw[QF,QF];exact Qx λe he=>(hk e he).2.2
theorem ID{G:Prop}(h:G:=by
 obtain⟨k,hk,rfl⟩:=List.getElem_of_mem hr;exact(r2 k _ (List.getElem?_eq_getElem hk)).2.1):G:=h
theorem MFL.mxs{w:World}{A:Option Addr}{n c:Nat}{Q:List (List Rat)}(h:MFL w A n c Q):∃ rs,MXL w A n c rs/\qM rs=Q/\Zfw rs=Zfv Q:=by
 obtain⟨h1,h2,h3,h4⟩:=h;rcases Nat.eq_zero_or_pos n with h0|h0
 ·subst h0
  obtain rfl:Q=[]:=Qw h1;exact⟨[],⟨rfl,h2,h3,λr hr=>(by cases hr),λhn=>absurd hn (Nat.lt_irrefl _)⟩,rfl,rfl⟩
 obtain⟨g,o,rfl,hc⟩:=h4 h0
 obtain⟨rs,r1,r2⟩:=Zmb (λi (r:RX)=>w.cell? ⟨g,o+i,none⟩=some (.slice r.A r.n r.c)/\FXL w r.A r.n r.c r.es/\r.es.map FX.q=Q[i]?.getD []/\Zl4 r=((Q[i]?.getD []).length,(Q[i]?.getD []).map λq=>(Zjh q,true,q))) n (λi hi=>by
  have hq:Q[i]?=some Q[i]:=Qb Gk;obtain⟨A',n',c',k0,hF⟩:=hc i _ hq;obtain⟨es,e1,e2,e3⟩:=hF.fxs;refine⟨⟨A',n',c',es⟩,k0,e1,by rw[hq];exact e2,?_⟩;rw[hq,Qm];unfold Zl4;rw[e3,hF.len])
 have ext:∀ {α:Type} (f:RX->α) (g:List Rat->α),(∀ (i:Nat) (r:RX),rs[i]?=some r->f r=g (Q[i]?.getD []))->rs.map f=Q.map g:=λf g hfg=>by
  apply Ql;intro i;rw[Qe,Qe];by_cases hi:i<n
  ·have hr:=Qb (l:=rs) (i:=i) Gk
   have hq:Q[i]?=some Q[i]:=Qb Gk;have:=hfg i _ hr;rw[hq,Qm]at this;rw[hr,hq,QI,QI,this]
  rw[Qg (l:=rs) Gk,Qg (l:=Q) Gk];rfl
 refine⟨rs,⟨r1,h2,h3,λr hr=>?_,λ_=>⟨g,o,rfl,λk r hk=>(r2 k r hk).1⟩⟩,?_,ext Zl4 (λr=>(r.length,r.map λq=>(Zjh q,true,q))) (λi r hr=>(r2 i r hr).2.2.2)⟩;exact ID;have:=ext (λr=>r.es.map FX.q) id (λi r hr=>(r2 i r hr).2.2.1);rw[List.map_id]at this;exact this
section
variable{Q:Nat->Nat->Rat}{n:Nat}{a b:List Int}{i k:Nat}
end
section
variable{R:List (List Rat)}{n:Nat}{a b:List Int}
end
def PartPost(rs:List RX)(ls:List Int)(w:World)(e:Ending)(w':World):Prop:=
 Below w.heap.size w w'/\((Zf9 rs ls=0/\∃ v L,e=.returned (.tuple #[v,.int .i64 0])/\MatOA 35 41 w' w.heap.size v L (Zka (qM rs) ls)) \/
  (Zf9 rs ls≠0/\e=.returned (.tuple #[.slice none 0 0,.int .i64 (Zf9 rs ls)])))
theorem PartPost.fall{rs:List RX}{ls:List Int}{w w':World}{E:Int}(hb:Below w.heap.size w w')(h:Zf9 rs ls=E)(h0:E≠0):PartPost rs ls w (.returned (.tuple #[.slice none 0 0,.int .i64 E])) w':=by
 subst h;exact⟨hb,.inr ⟨h0,rfl⟩⟩
theorem MatOA.lowerC{tS tF:TypeId}{w:World}{b b':Nat}{v:Value}{L:List RS}{Q:List (List Rat)}(h:MatOA tS tF w b v L Q)(hb:b'<=b):MatOA tS tF w b' v L Q:=by
 refine⟨?_,h.2.1,λi r hr=>(h.2.2.1 i r hr).lower hb,h.2.2.2⟩;rcases h.1 with h|⟨g,sp,h1,h2,h3⟩;exact .inl h;exact Ij
theorem MatOA.boxC{tS tF:TypeId}{w w':World}{base:Nat}{v:Value}{rs:List RS}{Q:List (List Rat)}(h:MatOA tS tF w base v rs Q){g:Nat}{t:TypeId}{cs:Array Value}(hb:Blk w g t cs)(hn:NoLimb cs)(hg:g<base)(hk:Kept (λk=>k=g) w w'):MatOA tS tF w' base v rs Q:=
 ⟨h.1.keptG hg hk,h.2.1,λi r hr=>(h.2.2.1 i r hr).keptG hb hn (λe=>by have:=(h.2.2.1 i r hr).row_ge g e;omega) hk,h.2.2.2⟩
theorem FC{G:Prop}(h:G:=by
 rcases h with ⟨rfl,_⟩|⟨g,sp,rfl,_⟩;exact⟨_,_,_,rfl⟩;exact⟨_,_,_,rfl⟩):G:=h
theorem RowS.isSlP{t:TypeId}{w:World}{base:Nat}{v:Value}{rs:List RS}(h:RowS t w base v rs):∃ A n c,v=.slice A n c:=by
 exact FC
theorem Zyy(na:Bool)(A:Option Addr)(n c:Nat)(nb:Bool)(B:Option Addr)(m d:Nat)(w:World):(Instr.field 73 (.agg #[.bool na,.slice A n c,.bool nb,.slice B m d]) 0).run Tryz.prog w=.ok (.agg #[.bool na,.slice A n c,.bool nb,.slice B m d]) w:=by kernel_rfl
theorem Zy4(x:Int):NoLimb #[.int .i64 x]:=λi y=>by
 match i with
 | 0=>simp[limb]
 | i+1=>simp
theorem Eh{G:Prop}(h:G:=by
 rw[hV,hU]at hw;subst hw;have r4:=q3.cell 0;simp at r4;exact⟨.tuple #[.slice none 0 0,.int .i64 8],by simp[results,Tryz.results27,go_sem,r4],PartPost.fall bP be (by first|decide|assumption|exact eu.out)⟩):G:=h
theorem Ch{G:Prop}(h:G:=by
 go_wp2_with fail;refine(Zax 8 w1).mono ?_;rintro e w6 ⟨rfl,rfl⟩;go_wp2_with fail;refine leaves_cons (f:=39) (args:=#[.pointer (some ⟨w.heap.size,0,none⟩)]) Gh Gd ?_;have e0:=(q1.out).cell 0;simp at e0;refine(Za4 ⟨w.heap.size,0,none⟩ 8 0 _ e0 ((q1.out).frozen 0)).mono ?_;rintro e u' w'' ⟨rfl,rfl,hw⟩;obtain⟨V,hV,bl,-,-,hk,sV⟩:=Zq 117 #[.int .i64 8] (ae) ((ae).size);obtain⟨U,hU,bP,q3,-⟩:=Zak 8 bl (Nat.le_refl _) (hk _ _ _ (q1.out));exact Eh):G:=h
theorem Ci{G:Prop}(h:G:=by
 clear fN;go_wp2_with fail;refine(Zax 8 wi).mono ?_;rintro e w6 ⟨rfl,rfl⟩;go_wp2_with fail;refine leaves_cons (f:=39) (args:=#[.pointer (some ⟨w.heap.size,0,none⟩)]) Gh Gd ?_;have e0:=(qi.out).cell 0;simp at e0;refine(Za4 ⟨w.heap.size,0,none⟩ 8 0 _ e0 ((qi.out).frozen 0)).mono ?_;rintro e u' w'' ⟨rfl,rfl,hw⟩;obtain⟨V,hV,bl,-,-,hk,sV⟩:=Zq 117 #[.int .i64 8] (aR) ((aR).size);obtain⟨U,hU,bP,q3,-⟩:=Zak 8 bl (Nat.le_refl _) (hk _ _ _ (qi.out));exact Eh):G:=h
theorem Zpd(A:Option Addr)(n c:Nat)(rs:List RX)(B:Option Addr)(m d:Nat)(ls:List Int)(w:World)(h:MXL w A n c rs)(hv:LimI w B m d ls)(hF:FacC rs)(hm9:m<=100) :
    Calls Tryz.prog 27 #[.slice A n c,.slice B m d] w (PartPost rs ls w):=by
 obtain⟨iF,hi,g0,i0,h7⟩:=info_parts Ze1;obtain⟨iS,ki,k2,i8,l2⟩:=info_parts Ziq;obtain⟨iN,ni,m9,m8,m3⟩:=info_parts Zl5;have hmx:=Gt;have k1:(35:TypeId)≠41:=Gj;have b9:=Zd h.1;have C:=Zd hv.1;have l5:=hv.2.1;have j5:=hv.2.2.1;have m5:=h.2.1;have j3:=h.2.2.1;unfold maxLen at j3 j5;obtain⟨W0,h6,b0,q0,s0⟩:=Zao w 26 #[.int .i64 0];have m0:Hid (W0.heap.size=w.heap.size+1):=Zd s0;have hC:=Zd (Zim A n c rs W0 (h.below b0) hF);have hH:=Zd h;have c6:=Zd hv;replace q0:=Zd q0;clear h hv s0
 go_enter_defers Tryz.func27,Tryz.ntmps27
 go_wp2_with fail;(try rw[h6]);refine hC.out.mono ?_;rintro e w1 ⟨c2,⟨h0,v1,v2,L0,rfl,-⟩|⟨h0,rfl⟩⟩
 case inr =>
  have ae:=Gs b0 c2;have q2:=Ze c2 q0.out;obtain⟨E,hE⟩:=Gz (Za9 rs);rw[hE]at h0 ⊢;have eu:=Zd h0;have be:=Zxd (ls:=ls) hE h0;replace hE:=Zd hE;go_wp2_with fail;refine leaves_cons (f:=39) (args:=#[.pointer (some ⟨w.heap.size,0,none⟩)]) Gh Gd ?_;have e0:=(q2).cell 0;simp at e0;refine(Za4 ⟨w.heap.size,0,none⟩ E 0 _ e0 ((q2).frozen 0)).mono ?_;rintro e u' w'' ⟨rfl,rfl,hw⟩;obtain⟨V,hV,bl,-,-,hk,sV⟩:=Zq 117 #[.int .i64 E] (ae) ((ae).size);obtain⟨U,hU,bP,q3,-⟩:=Zak E bl (Qd _) (hk _ _ _ (q2));rw[hV,hU]at hw;subst hw;have r4:=q3.cell 0;simp at r4;exact⟨.tuple #[.slice none 0 0,.int .i64 E],by simp[results,Tryz.results27,go_sem,r4],PartPost.fall bP be (by first|decide|assumption|exact eu.out)⟩
 have ae:=Gs b0 c2;have q1:=Gm c2 q0;obtain⟨a8,k9,i6⟩:=Zhp h0;have hM:=Zd (a8.good hH.out);have h9:Hid (∀ a,a<n->((qM rs)[a]?.getD []).length=n):=Zd (λa ha=>a8.row hH.out a ha);have k6:Hid (∀ a b,SmE 64 (qM rs)/\Sm (Zj (qM rs) a b)):=Zd (λa b=>⟨a8.small64 hH.out,(a8.small64 hH.out).smC Gj a b⟩);have m2:n<=6:=by rw[<- b9.out];exact a8.facts.2.1
 have a9:=Zd h0;clear h0 a8 k9 i6 q0 hC c2 b0 h6;by_cases a7:m=0
 case pos =>
  subst a7;have t1:decide ((0:Int)<((0:Nat):Int))=false:=Gj;have be:=Zfy a9.out (Zxw (n:=rs.length) C.out);exact Ch
 have t1:decide ((0:Int)<(m:Int))=true:=Gv Gk;have l7:decide (0<m)=true:=Gv Gk;by_cases a2:m<=n
 case neg =>
  have t2:decide ((m:Int)<=(n:Int))=false:=Gu Gk;have i3:decide (m<=n)=false:=Gu a2;have be:=Zfy a9.out (Zvf (n:=rs.length) (ls:=ls) (by rw[C.out,b9.out];omega));replace a2:=Zd a2;replace a7:=Zd a7;exact Ch
 have t2:decide ((m:Int)<=(n:Int))=true:=Gv Gk;have i3:decide (m<=n)=true:=Gv a2;replace a7:=Zd a7;replace a2:=Zd a2;go_wp2_with fail;refine(Zb4 8 w1).mono ?_;rintro e w1 ⟨rfl,rfl⟩;go_wp2_with fail
 go_loopg [28] m (λt iv wr=>∃ i:Nat,i+t=m/\iv=.int .i64 i/\Hid (∀ k,k<i->idxOk n ls k)/\Below w1.heap.size w1 wr)
 case atStart=>exact⟨0,by omega,rfl,Zd (λk hk=>by omega),Qa _ _⟩
 case round =>
  obtain⟨wi,rfl⟩:=Gy wr;obtain⟨i,m6,rfl,O,b6⟩:=hrel;have aR:=Gs ae b6;cases gk with
  | succ t =>
   obtain rfl:t=m-(i+1):=Gk;have h5:i<m:=Gk;have t3:decide ((i:Int)<(m:Int))=true:=Gv Gk;have bi:(i:Int)<(m:Int):=Gk;have m1:(i:Int)<=(m:Int):=Gk;have m4:(i:Int)<=(d:Int):=Gk;have fN:=(c6.out.below aR).takeC (show i<=m by omega);obtain⟨g,o,rfl,c0⟩:=(c6.out.below aR).atC h5;obtain⟨x,hx⟩:=Gz (ls[i]?.getD 0);have k8:=c6.out.i64C i;rw[hx]at c0 k8;have c1:Hid (i<ls.length):=Zd (by rw[C.out];exact h5);have qi:=Gm b6 q1;by_cases y:0<=x
   case neg =>
    have t4:decide ((0:Int)<=x)=false:=Gu y;have be:=Zfy a9.out (Zla (n:=rs.length) c1.out (λh=>y (by rw[<- hx];exact h.1.1)));replace hx:=Zd hx;replace y:=Zd y;exact Ci
   have t4:decide ((0:Int)<=x)=true:=Gv y;by_cases J:x<n
   case neg =>
    have t5:decide (x<(n:Int))=false:=Gu J;have be:=Zfy a9.out (Zla (n:=rs.length) c1.out (λh=>J (by have:=h.1.2;rw[hx,b9.out]at this;exact this)));replace hx:=Zd hx;replace y:=Zd y;replace J:=Zd J;exact Ci
   have t5:decide (x<(n:Int))=true:=Gv J;obtain⟨b,hb⟩:=Gz (decide (x ∈ ls.take i));have g9:=Zd (λW1 (hbb:Below wi.heap.size wi W1)=>Zp0 (some ⟨g,o,none⟩) i i (ls.take i) x W1 (fN.below hbb) b hb);clear fN;cases b
   ·have d8:Hid (∀ k,k<i+1->idxOk n ls k):=Zd (λk hk=>by
      rcases Qt k i with h'|h';exact O.out k h';obtain rfl:k=i:=Gk;refine⟨⟨by rw[hx];exact y,by rw[hx];exact J⟩,λj hj e=>?_⟩;refine of_decide_eq_false hb ?_;rw[<- hx];exact(idxOk.mem c1.out).2 ⟨j,hj,e⟩)
    replace hx:=Zd hx;replace y:=Zd y;replace J:=Zd J;replace hb:=Zd hb;go_wp2_with fail;refine(g9.out _ (by first|exact Qa _ _|exact Zh (Qa _ _) _)).mono ?_;rintro e w2 ⟨rfl,c5⟩;go_wp2_with fail;refine(Zb4 8 w2).mono ?_;rintro e w2 ⟨rfl,rfl⟩;go_wp2_with fail
    go_roundg (m-(i+1))
    case measure=>omega
    case rel=>exact⟨i+1,by omega,by go_num,d8,Gs b6 c5⟩
   have be:=Zfy a9.out (Zla (n:=rs.length) c1.out (λh=>by
     have:=of_decide_eq_true hb;rw[<- hx]at this;obtain⟨j,hj,e⟩:=(idxOk.mem c1.out).1 this;exact h.2 j hj e))
   replace hx:=Zd hx;replace y:=Zd y;replace J:=Zd J;replace hb:=Zd hb;go_wp2_with fail;refine(g9.out _ (by first|exact Qa _ _|exact Zh (Qa _ _) _)).mono ?_;rintro e w2 ⟨rfl,c5⟩;have d5:=Ze c5 qi.out;have g6:=Gs aR c5;go_wp2_with fail;refine(Zax 8 w2).mono ?_;rintro e w6 ⟨rfl,rfl⟩;go_wp2_with fail;refine leaves_cons (f:=39) (args:=#[.pointer (some ⟨w.heap.size,0,none⟩)]) Gh Gd ?_;have e0:=(d5).cell 0;simp at e0;refine(Za4 ⟨w.heap.size,0,none⟩ 8 0 _ e0 ((d5).frozen 0)).mono ?_;rintro e u' w'' ⟨rfl,rfl,hw⟩;obtain⟨V,hV,bl,-,-,hk,sV⟩:=Zq 117 #[.int .i64 8] (g6) ((g6).size);obtain⟨U,hU,bP,q3,-⟩:=Zak 8 bl (Qd _) (hk _ _ _ (d5));exact Eh
  | zero =>
   obtain rfl:m=i:=Gk;have t3:decide ((m:Int)<(m:Int))=false:=Gh;have be:Hid (Zf9 rs ls=0):=Zd (Zn8 a9.out (Zrl (by rw[C.out];have:=a7.out;omega) (by rw[C.out,b9.out];exact a2.out) (by rw[C.out,b9.out];exact O.out)));have h2:Hid (Blk wi w.heap.size 26 #[.int .i64 0]):=Gm b6 q1;have f4:Hid (w.heap.size<wi.heap.size):=Zd h2.out.lt;have j8:=Zd (hM.out.below aR);have f5:=Zd (c6.out.below aR);clear q1;go_wp2_with fail
   go_loopg [4,54] m (λt ov jv wr=>∃ (j:Nat) (L:List RS),j+t=m/\jv=.int .i64 j/\MatOA 35 41 wr wi.heap.size ov L ((Zka (qM rs) ls).take j)/\Below wi.heap.size wi wr)
   case atStart=>exact⟨0,[],by omega,rfl,MatOA.nil _ _ _ _,Qa _ _⟩
   case round =>
    obtain⟨wj,rfl⟩:=Gy wr;obtain⟨j,L1,l9,rfl,T,a1⟩:=hrel;have k7:Hid (L1.length=j):=Zd (by rw[T.2.1,Qj,Zpj,C.out];omega);obtain⟨oA,on_,oc,rfl⟩:=T.1.isSlP;cases gk with
    | zero =>
     obtain rfl:m=j:=Gk;have t4:decide ((m:Int)<(m:Int))=false:=Gh;have q5:=Ze a1 h2.out;have j0:Below w.heap.size w wj:=Gs aR a1;have e0:=q5.cell 0;have z0:=q5.frozen 0;simp at e0;obtain⟨U,hU,bP,q3,-⟩:=Zak 0 j0 (Qd _) q5;have r4:=q3.cell 0;simp at r4;have g5:Kept (λk=>k=w.heap.size) wj U:=by rw[<- hU];exact Kept.set_ (G:=λk=>k=w.heap.size) (Kept.refl _ _) (p:=⟨w.heap.size,0,none⟩) (.inl rfl) _
     have l1:=Zd ((T.boxC q5 (Zy4 _) f4.out g5).lowerC (Nat.le_of_lt f4.out));replace T:=Zd T;clear g5 q5;go_wp2_with fail;(try rw[hU]);refine leaves_cons (f:=39) (args:=#[.pointer (some ⟨w.heap.size,0,none⟩)]) Gh Gd ?_;refine(Zeu _ _).mono ?_;rintro e u' w'' ⟨rfl,rfl,rfl⟩;refine⟨.tuple #[.slice oA on_ oc,.int .i64 0],by simp[results,Tryz.results27,go_sem,r4],bP,.inl ⟨be.out,_,L1,rfl,?_⟩⟩;have h1:=l1.out;rw[QJ (by rw[Zpj,C.out];exact Qd _)]at h1;exact h1
    | succ t =>
     obtain rfl:t=m-(j+1):=Gk;have c3:j<m:=Gk;have t4:decide ((j:Int)<(m:Int))=true:=Gv Gk;have bj:(j:Int)<(m:Int):=Gk;obtain⟨gl,ol,rfl,c0⟩:=(f5.out.below a1).atC c3;obtain⟨a,ha⟩:∃ a:Nat,ls[j]?.getD 0=(a:Int):=⟨(ls[j]?.getD 0).toNat,by have:=(O.out j c3).1.1;omega⟩;have f3:a<n:=by have:=(O.out j c3).1.2;omega
     rw[ha]at c0;have ban:(a:Int)<(n:Int):=Gk;have i4:Hid (j<ls.length):=Zd (by rw[C.out];exact c3);have j2:Hid (Zcx (qM rs) ls (ls[j]?.getD 0)=ls.map λb=>Zj (qM rs) a b.toNat):=Zd (by unfold Zcx;rw[ha];rfl);have g8:=Z1c (P:=Tryz.prog) 35 41 Tryz.underlying35 hi g0 i0 h7 m Gk wj;have b8:=Zw3 41 wj m (by unfold maxLen;omega);obtain⟨V1,e6⟩:=Gz (wj.alloc (.cells (Z0 (Qc m Zat)) 41));have bl:Below wj.heap.size wj V1:=by rw[<- e6];exact(Qa _ _).alloc (Qd _) _
     rw[e6]at b8 g8;have i7:=Zc bl c0;replace ha:=Zd ha;replace T:=Zd T;replace b8:=Zd b8;go_wp2_with fail;clear g8 c0 i7
     go_loopg [10,63] m (λt rv kv wr=>∃ k:Nat,k+t=m/\kv=.int .i64 k/\OwnF 41 wr wj.heap.size rv ((Zcx (qM rs) ls (ls[j]?.getD 0)).take k)/\Below wj.heap.size wj wr)
     case atStart=>exact⟨0,by omega,rfl,by simpa using b8.out,bl⟩
     case round =>
      clear b8 e6 bl V1;obtain⟨wk,rfl⟩:=Gy wr;obtain⟨k,l8,rfl,hO,b1⟩:=hrel;have u:Below wi.heap.size wi wk:=Gs a1 b1;obtain⟨rA,rc,e9,e5⟩:=hO.fl;have g7:((Zcx (qM rs) ls (ls[j]?.getD 0)).take k).length=k:=by rw[Qj,Zlv,C.out];omega
      rw[g7]at e9 e5;subst e9;cases gk with
      | zero =>
       obtain rfl:m=k:=Gk;have t5:decide ((m:Int)<(m:Int))=false:=Gh;have e4:=T.out.kept b1
       have i5:Hid (∀ s ∈ L1,∀ k',s.val.ownBlock=some k'->k'<wj.heap.size):=Zd (λs hs k' hk'=>by
        obtain⟨q,hq,e⟩:=Qn hs;exact(T.out.2.2.1 q s (by rw[Qb hq,e])).blt k' hk')
       obtain⟨Y1,a0⟩:=Gz (wk.alloc (.cells #[.slice rA m rc] 35));obtain⟨gz,i1⟩:=Gz wk.heap.size;have a4:Below wk.heap.size wk Y1:=by rw[<- a0];exact(Qa _ _).alloc (Qd _) _
       have c7:Blk Y1 gz 35 #[.slice rA m rc]:=by rw[<- a0,<- i1];exact Qq _ _ _
       have f6:=e4.kept a4;have a3:=hO.kept a4;have d0:Below wi.heap.size wi Y1:=Gs u a4;have k5:L1.length+1<=1000:=by rw[k7.out];omega
       have d3:=f6.1;have b3:=d0.size;replace hO:=Zd hO;replace e4:=Zd e4;replace a3:=Zd a3;clear e5;go_wp2_with ((try rw[a0]);(try rw[i1]);at_builtin;refine Zkq _ rfl (.tmp 83) (.tmp 85) 25 rfl wi.heap.size 35 iS Tryz.underlying25 ki k2 i8 l2 _ L1 rfl d3 _ (some ⟨gz,0,none⟩) 1 1 [⟨rA,m,rc⟩] rfl (Zfh c7) rfl k5 b3 ?_;intro v5 w5 k4 i2 j7);have c4:=f6.snoc k1 (r:=⟨rA,m,rc⟩) a3.out a1.size i5.out k4 i2 j7;have j9:=d0.grown i2 b3 (λk hk=>d3.row_ge k hk);have e8:(Zcx (qM rs) ls (ls[j]?.getD 0)).take m=Zcx (qM rs) ls (ls[j]?.getD 0):=QJ (by rw[Zlv,C.out];exact Qd _);rw[e8,Zt4 i4.out]at c4;replace c4:=Zd c4
       go_roundg (m-(j+1))
       case measure=>omega
       case rel=>exact⟨j+1,_,by omega,by go_num,c4.out,j9⟩
      | succ t' =>
       obtain rfl:t'=m-(k+1):=Gk;have a5:k<m:=Gk;have t5:decide ((k:Int)<(m:Int))=true:=Gv Gk;have bk:(k:Int)<(m:Int):=Gk;have y0:=(f5.out.below u).atCS a5;obtain⟨b,hb⟩:∃ b:Nat,ls[k]?.getD 0=(b:Int):=⟨(ls[k]?.getD 0).toNat,by have:=(O.out k a5).1.1;omega⟩;have l3:b<n:=by have:=(O.out k a5).1.2;omega
       rw[hb]at y0;have bbn:(b:Int)<(n:Int):=Gk;obtain⟨g1,o1,A',n',c',rfl,k0,hR⟩:=j8.out.at_ f3;have i9:n=n':=by rw[<- hR.len];exact(h9.out a f3).symm
       subst i9;have e2:=hR.cap;unfold maxLen at e2;obtain⟨g2,o2,xn,xA,xk,xc,xm,xB,xj,xd,rfl,⟨x0,x1,x2,x3⟩,hX⟩:=hR.at_ l3;have eX:((qM rs)[a]?.getD [])[b]?.getD 0=Zj (qM rs) a b:=rfl;rw[eX]at hX
       have e7:Hid ((Zcx (qM rs) ls (ls[j]?.getD 0)).take k ++ [Zj (qM rs) a b*((1:Int):Rat)]=(Zcx (qM rs) ls (ls[j]?.getD 0)).take (k+1)):=Zd (by
        have h1:=Zrd (Q:=qM rs) (a:=ls[j]?.getD 0) (k:=k) (ls:=ls) (by rw[C.out];exact a5);rw[ha.out,hb]at h1;rw[ha.out,<- h1];congr 2;simp)
       replace hX:=Zd hX;replace hb:=Zd hb;replace hO:=Zd hO;have z0:=Zc u k0;have z1:=Zc u x0;have z2:=Zc u x1;have z3:=Zc u x2;have z4:=Zc u x3;clear eX hR e5;go_wp2_with fail;clear z0 z1 z2 z3 z4;obtain⟨X0,c8⟩:=Gz wk.drew;have d7:Below wk.heap.size wk X0:=by rw[<- c8];exact Zh (Qa _ _) 1
       have I:Hid (∀ wx,Below wi.heap.size wi wx->wx.cell? ⟨g1,o1+a,none⟩=some (.slice (some ⟨g2,o2,none⟩) n c')/\wx.cell? ⟨g2,o2+b*4,none⟩=some (.bool xn)/\wx.cell? ⟨g2,o2+b*4+1,none⟩=some (.slice xA xk xc)/\wx.cell? ⟨g2,o2+b*4+2,none⟩=some (.bool xm)/\wx.cell? ⟨g2,o2+b*4+3,none⟩=some (.slice xB xj xd)):=Zd (λwx hbx=>⟨Zc hbx k0,Zc hbx x0,Zc hbx x1,Zc hbx x2,Zc hbx x3⟩);have d6:Below wi.heap.size wi X0:=Gs u d7;refine wp_heldS [] hmx I (by rw[c8];exact d6) (λhxs=>?_);rw[c8];refine Zkb 8 [0,1,2,3,4,5,6,7] rfl Gi (I.out _ d6) ?_
       iterate 8 (refine tkA ?_;try simp only[Qf,Zg9,Zgn,Zg3,Gr,Gq,Gp])
       refine tk0 ?_;refine Zgo 1 [8] rfl Gi (I.out _ d6) ?_
       (refine tkA ?_;try simp only[Qf,Zg9,Zgn,Zg3,Gr,Gq,Gp])
       refine tk0 ?_;refine wpAnyL_o 9 λK hK=>?_;go_simp;refine(Zqp 1 X0 Gj Gj).mono ?_;rintro e w5 ⟨l0,pn,pA,pk,pc,pm,pB,pj,pd,rfl,hP⟩;have e3:=Gs d7 l0;have j1:=Gs u e3;refine hK.out _ _ (λ_=>I.out _ j1) ?_;clear hK K
       try simp only[Qf,Zg9,Zgn,Zg3]
       obtain⟨Y1,a0⟩:=Gz (w5.alloc (.cells #[.bool pn,.slice pA pk pc,.bool pm,.slice pB pj pd] 73));obtain⟨h8,b2⟩:=Gz w5.heap.size;have a4:Below w5.heap.size w5 Y1:=by rw[<- a0];exact(Qa _ _).alloc (Qd _) _
       have c7:Blk Y1 h8 73 #[.bool pn,.slice pA pk pc,.bool pm,.slice pB pj pd]:=by rw[<- a0,<- b2];exact Qq _ _ _
       have e1:=Gs e3 a4;have f9:=Gs u e1;refine wpAnyL_o 10 λK hK=>?_;go_simp;(try rw[a0]);(try rw[b2]);refine hK.out _ _ (λ_=>I.out _ f9) ?_;clear hK K a0 b2
       try simp only[Qf,Zg9,Zgn,Zg3]
       refine wpAnyL_o 11 λK hK=>?_;go_simp;refine(Zcs xn xA xk xc xm xB xj xd (Zj (qM rs) a b) (some ⟨h8,0,none⟩) 1 1 [((1:Int):Rat)] Y1 (hX.out.below f9) (FL.sing1 c7 (hP.below a4)) Gk (λt ht=>?_) (λt ht=>?_)).mono ?_
       ·obtain rfl:t=0:=Gk
        exact(k6.out a b).2
       ·obtain rfl:t=0:=Gk
        exact⟨by show (1:Nat)<_;rw[show (1000:Nat)=999+1 by rfl,Za6];have:=Zby 999;omega,by show (1:Nat)<_;rw[show (1000:Nat)=999+1 by rfl,Za6];have:=Zby 999;omega⟩
       rintro e w6 ⟨j6,un,uA,uk,uc,um,uB,uj,ud,rfl,hU⟩;have d9:=Gs e1 j6;have f0:=Gs u d9;refine hK.out _ _ (λ_=>I.out _ f0) ?_;clear hK K
       try simp only[Qf,Zg9,Zgn,Zg3]
       have l6:=Zyy un uA uk uc um uB uj ud;refine Zgo 1 [12] rfl Gi (I.out _ f0) ?_
       (refine tkA ?_;try simp only[Qf,Zg9,Zgn,Zg3,Gr,Gq,Gp])
       refine tk0 ?_;obtain⟨Y2,c9⟩:=Gz (w6.alloc (.cells #[.bool un,.slice uA uk uc,.bool um,.slice uB uj ud] 41));obtain⟨f7,b7⟩:=Gz w6.heap.size;have b5:Below w6.heap.size w6 Y2:=by rw[<- c9];exact(Qa _ _).alloc (Qd _) _
       have d4:Blk Y2 f7 41 #[.bool un,.slice uA uk uc,.bool um,.slice uB uj ud]:=by rw[<- c9,<- b7];exact Qq _ _ _
       have a6:=Gs d9 b5;have h3:=Gs u a6;refine wpAnyL_o 13 λK hK=>?_;go_simp;(try rw[c9]);(try rw[b7]);refine hK.out _ _ (λ_=>I.out _ h3) ?_;clear hK K c9 b7
       try simp only[Qf,Zg9,Zgn,Zg3]
       have a3:=hO.out.kept a6;have h4:=hU.below b5;have b3:wj.heap.size<=Y2.heap.size:=Nat.le_trans b1.size a6.size;have k3:Below wj.heap.size wj Y2:=Gs b1 a6;refine wpAnyL_o 14 λK hK=>?_;rw[Gx Ge];refine Zbi _ (.tmp 67) (.tmp 80) 35 rfl wj.heap.size 41 iF Tryz.underlying35 hi g0 i0 h7 (.slice rA k rc) _ rfl a3 _ (some ⟨f7,0,none⟩) 1 1 [⟨un,uA,uk,uc,um,uB,uj,ud,Zj (qM rs) a b*((1:Int):Rat)⟩] rfl (Zcn _ d4) rfl (by intro e he;rw[Qz]at he;subst he;exact h4) (by rw[g7];omega) b3 ?_;intro v7 w7 b4 j4 l4 m7;have g4:=k3.grown j4 b3 (λk hk=>a3.row_ge k hk);have f8:Below wi.heap.size wi w7:=Gs a1 g4;simp only[Qi,Qk]at b4;rw[e7.out]at b4;refine hK.out _ _ (λ_=>I.out _ f8) ?_;clear hK K
       try simp only[Qf,Zg9,Zgn,Zg3]
       refine Zgo 1 [15] rfl Gi (I.out _ f8) ?_
       (refine tkA ?_;try simp only[Qf,Zg9,Zgn,Zg3,Gr,Gq,Gp])
       refine tk0 ?_;refine wpAnyL_fin ?_;replace b4:=Zd b4;clear a3 h4 d4 b5 c7 a4 hU hP c8;go_wp2_with fail
       go_roundg (m-(k+1))
       case measure=>omega
       case rel=>exact⟨k+1,by omega,by go_num,b4.out,g4⟩
section
variable{rs:List RX}{js:List (List Int)}{n:Nat}
end
theorem Iw{G:Prop}(h:G:=by
 refine⟨?_,?_⟩
 ·rw[Rat.num_intCast]
  exact Nat.lt_of_le_of_lt h (Zdm Gk)
 rw[Rat.den_intCast];rw[show (1:Nat)=0+1 by rfl,Za6,Zds];decide):G:=h
theorem SmN.intC(x:Int)(k:Nat)(h:x.natAbs<=pw k):SmN (k+1) 1 (x:Rat):=by
 exact Iw
theorem smH:SmN 1 1 axH:=⟨by decide +kernel,by decide +kernel⟩
theorem sm4:SmN 1 1 (4:Rat):=⟨by decide +kernel,by decide +kernel⟩
section
variable{a b d:Rat}
theorem sz_t(sa:SmN 5 5 a)(sd:SmN 5 5 d):SmN 11 10 (axT a d):=(sa.add sd).mono Gj Gj
theorem sz_d(sa:SmN 5 5 a)(sd:SmN 5 5 d):SmN 11 10 (axD a d):=(sa.sub sd).mono Gj Gj
theorem Zqb(sa:SmN 5 5 a)(sd:SmN 5 5 d):SmN 12 11 (Zan a d):=(sz_t sa sd).mulN smH
theorem Zn5(sa:SmN 5 5 a)(sd:SmN 5 5 d):SmN 12 11 (Zey a d):=(sz_d sa sd).mulN smH
theorem sz_sq(sa:SmN 5 5 a)(sb:SmN 5 5 b)(sd:SmN 5 5 d):SmN 35 32 (Zhr a b d):=(((Zn5 sa sd).mulN (Zn5 sa sd)).add (sb.mulN sb)).mono Gj Gj
theorem sz_q(sa:SmN 5 5 a)(sb:SmN 5 5 b)(sd:SmN 5 5 d):SmN 34 31 (axQ a b d):=(((sz_d sa sd).mulN (sz_d sa sd)).add (sm4.mulN (sb.mulN sb))).mono Gj Gj
theorem sz_n(sa:SmN 5 5 a)(sb:SmN 5 5 b)(sd:SmN 5 5 d):(axN a b d).natAbs<pw 42:=by
 unfold axN;rw[Qy,Qo,show 42=11+31 from rfl,Zdw];exact Qs (sz_t sa sd).1 (sz_q sa sb sd).2
theorem sz_s0(sa:SmN 5 5 a)(sb:SmN 5 5 b)(sd:SmN 5 5 d):((axQ a b d).num*((axQ a b d).den:Int)).natAbs<pw 65:=by
 rw[Qy,Qo,show 65=34+31 from rfl,Zdw];exact Qs (sz_q sa sb sd).1 (sz_q sa sb sd).2
theorem sz_s1(sa:SmN 5 5 a)(sb:SmN 5 5 b)(sd:SmN 5 5 d):((axQ a b d).num*((axQ a b d).den:Int)*((axT a d).den:Int)).natAbs<pw 75:=by
 rw[Qy,Qo,show 75=65+10 from rfl,Zdw];exact Qs (sz_s0 sa sb sd) (sz_t sa sd).2
theorem sz_s(sa:SmN 5 5 a)(sb:SmN 5 5 b)(sd:SmN 5 5 d):(axS a b d).natAbs<pw 85:=by
 unfold axS;rw[Qy,Qo,show 85=75+10 from rfl,Zdw];exact Qs (sz_s1 sa sb sd) (sz_t sa sd).2
theorem sz_r(sa:SmN 5 5 a)(sb:SmN 5 5 b)(sd:SmN 5 5 d):axR a b d<pw 85:=by
 have h:=(Zwq (axS a b d).natAbs).1;have h1:=sz_s sa sb sd;have h2:axR a b d<=axR a b d*axR a b d:=Nat.le_mul_self _;have h3:axR a b d*axR a b d<=(axS a b d).natAbs:=h;omega
theorem sz_up(sa:SmN 5 5 a)(sb:SmN 5 5 b)(sd:SmN 5 5 d):(axUp a b d).natAbs<=pw 85:=by
 have h:=sz_r sa sb sd;unfold axUp
 split <;> omega
theorem Zv7{x m:Int}(hm:0<m){K:Nat}(hx:x.natAbs<=K):(Int.fdiv x m).natAbs<=K:=by
 rw[Int.fdiv_eq_ediv_of_nonneg _ Gk]
 exact Nat.le_trans (by
  rcases Int.le_total 0 x with h|h
  ·have h1:=Int.ediv_nonneg h (by omega:0<=m)
   have h2:=Int.ediv_le_self m h;omega
  have h1:x<=x/m:=by
    rw[QK hm];have h9:x*m<=x*1:=Int.mul_le_mul_of_nonpos_left h Gk;omega
  have h2:x/m<=0:=by
   apply Classical.byContradiction;intro h3;have h4:=(QK (a:=1) (b:=x) hm).1 Gk;omega
  omega) hx
theorem Zz9{x y:Int}(hx:x.natAbs<pw 42)(hy:y.natAbs<=pw 85):(x+y).natAbs<=pw 86:=by
 have h1:pw 42<=pw 85:=Zca Gj;have h2:pw 86=4294967296*pw 85:=by rw[Za6]
 have h3:=Zby 85;have h4:=Int.natAbs_add_le x y;rw[h2];generalize pw 85=P at *;generalize pw 42=Q at *;omega
theorem Zp6(sa:SmN 5 5 a)(sb:SmN 5 5 b)(sd:SmN 5 5 d):(axLong a b d).natAbs<=pw 86:=by
 have hm:=Zkk (a:=a) (b:=b) (d:=d);exact Zv7 Gk (Zz9 (sz_n sa sb sd) (by have:=sz_r sa sb sd;omega))
theorem Zmk(sa:SmN 5 5 a)(sb:SmN 5 5 b)(sd:SmN 5 5 d):(axShort a b d).natAbs<=pw 86:=by
 have hm:=Zkk (a:=a) (b:=b) (d:=d);unfold axShort;rw[Int.sub_eq_add_neg];exact Zv7 Gk (Zz9 (sz_n sa sb sd) (by have:=sz_up sa sb sd;rw[Int.natAbs_neg];exact this))
theorem big_M{M:Int}(h:M.natAbs<=pw 86):M<((pw 313:Nat):Int):=by
 have h3:pw 86<pw 313:=Zdm Gj;generalize pw 313=P at *;generalize pw 86=Q at *;omega
theorem sz_z{M z:Int}(h:M.natAbs<=pw 86)(h1:-1<=z)(h2:z<=2*M+2):SmN 88 1 (z:Rat):=by
 refine SmN.intC z 87 ?_;have h3:pw 87=4294967296*pw 86:=by rw[Za6]
 have h4:=Zby 86;rw[h3];generalize pw 86=P at *;omega
theorem ax_z(sa:SmN 5 5 a)(sd:SmN 5 5 d){M z:Int}(h:M.natAbs<=pw 86)(h1:-1<=z)(h2:z<=2*M+2):Sm (z:Rat)/\Sm ((z:Rat)-Zan a d)/\Sm (((z:Rat)-Zan a d)*((z:Rat)-Zan a d)):=by
 have k1:=sz_z h h1 h2;have k2:SmN 100 12 ((z:Rat)-Zan a d):=(k1.sub (Zqb sa sd)).mono Gj Gj;exact⟨k1.sm Gj Gj,k2.sm Gj Gj,(k2.mulN k2).sm Gj Gj⟩
theorem Zup(sa:SmN 5 5 a)(sb:SmN 5 5 b)(sd:SmN 5 5 d)(ha:0<a)(hd:0<d):EdgeP 1 (Zan a d) (Zhr a b d) (axLong a b d):=
 ⟨λ_ _=>ax_low1,Int.le_trans Gj (Zs7 ha hd),big_M (Zp6 sa sb sd),(Zqb sa sd).sm Gj Gj,(sz_sq sa sb sd).sm Gj Gj,λ_ h1 h2=>ax_z sa sd (Zp6 sa sb sd) h1 h2⟩
theorem Zsx(sa:SmN 5 5 a)(sb:SmN 5 5 b)(sd:SmN 5 5 d)(ha:0<a)(hd:0<d)(hp:0<a*d-b*b):EdgeP (-1) (Zan a d) (Zhr a b d) (axShort a b d):=
 ⟨λ_ _=>ax_low2,Int.le_trans Gj (Zlk ha hd hp),big_M (Zmk sa sb sd),(Zqb sa sd).sm Gj Gj,(sz_sq sa sb sd).sm Gj Gj,λ_ h1 h2=>ax_z sa sd (Zmk sa sb sd) h1 h2⟩
end
def AxPost(E l s:Int)(w:World)(e:Ending)(w':World):Prop:=
 Below w.heap.size w w'/\((E=0/\∃ xn xA xk xc yn yA yk yc,e=.returned (.tuple #[.agg #[.bool xn,.slice xA xk xc],.agg #[.bool yn,.slice yA yk yc],.int .i64 0])/\Wd w' xn xA xk xc l/\Wd w' yn yA yk yc s) \/
  (E≠0/\e=.returned (.tuple #[.agg #[.bool false,.slice none 0 0],.agg #[.bool false,.slice none 0 0],.int .i64 E])))
theorem AxPost.fall{E0 E l s:Int}{w w':World}(hb:Below w.heap.size w w')(h:E0=E)(h0:E≠0):AxPost E0 l s w (.returned (.tuple #[.agg #[.bool false,.slice none 0 0],.agg #[.bool false,.slice none 0 0],.int .i64 E])) w':=by
 subst h;exact⟨hb,.inr ⟨h0,rfl⟩⟩
def axE(rs:List RX):Int:=if Za9 rs≠0 then Za9 rs else if rs.length=2 then 0 else 8
section
variable{rs:List RX}{E:Int}
theorem axE_cov(h:Za9 rs=E)(h0:E≠0):axE rs=E:=by subst h;exact Gx h0
theorem axE_bad(h:Za9 rs=0)(hb:rs.length≠2):axE rs=8:=by
 unfold axE;rw[Gw (by simp[h])];exact Gw hb
theorem Ztv(h:Za9 rs=0)(hb:rs.length=2):axE rs=0:=by
 unfold axE;rw[Gw (by simp[h])];exact Gx hb
theorem Ft{G:Prop}(h:G:=by
 have e2:Zj (qM rs) 0 0*(Zj (qM rs) 1 1-Zj (qM rs) 0 1/Zj (qM rs) 0 0*Zj (qM rs) 0 1)=Zj (qM rs) 0 0*Zj (qM rs) 1 1-Zj (qM rs) 0 1*Zj (qM rs) 0 1:=by
  have h5:Zj (qM rs) 0 1/Zj (qM rs) 0 0*Zj (qM rs) 0 0=Zj (qM rs) 0 1:=by
   rw[Rat.div_def,Rat.mul_assoc,Rat.inv_mul_cancel _ eF,Rat.mul_one]
  grind
 rw[e2]at h3;exact h3):G:=h
theorem Zzh(h0:Za9 rs=0)(h2:rs.length=2):0<Zj (qM rs) 0 0/\0<Zj (qM rs) 1 1/\0<Zj (qM rs) 0 0*Zj (qM rs) 1 1-Zj (qM rs) 0 1*Zj (qM rs) 0 1/\Zj (qM rs) 1 0=Zj (qM rs) 0 1:=by
 obtain⟨o,f,h⟩:=Zhp h0;have hl:(qM rs).length=2:=by unfold qM;rw[Qh];exact h2
 have hs:=symB_iff.1 f 1 0 Gk Gk;have k0:=Zf6 h0 (k:=0) Gk;have k1:=Zf6 h0 (k:=1) Gk;have h1:=h 1 Gk;have e:dQ (Zj (qM rs)) 1=Zj (qM rs) 1 1-Zj (qM rs) 1 0/Zj (qM rs) 0 0*Zj (qM rs) 0 1:=rfl;rw[e,hs]at h1;refine⟨k0,k1,?_,hs⟩;have h3:=Rat.mul_pos k0 h1;have eF:Zj (qM rs) 0 0≠0:=λe=>by rw[e]at k0;exact absurd k0 Gj
 exact Ft
end
theorem FY{G:Prop}(h:G:=by
 go_simp;exact hK.out _ _ ⟨_,rfl,(by simp only[Zah];exact⟨_,_,rfl,FL.sing1 (Blk.new _ _ _) ((bV.out.below ag).below ((Below.refl _ _).alloc (Nat.le_refl _) _))⟩),(Below.refl _ _).alloc (Nat.le_refl _) _,trivial⟩):G:=h
theorem CW{G:Prop}(h:G:=by
 rintro e w5 ⟨ao,fn,fA,fk,fc,fm,fB,fj,fd,rfl,ar⟩;rw[Zh4]at ar;exact Ep):G:=h
theorem Zlg(A:Option Addr)(n c:Nat)(rs:List RX)(w:World)(h:MXL w A n c rs)(hF:FacC rs)(hS:Za9 rs=0->∀ a b,SmN 5 5 (Zj (qM rs) a b)) :
    Calls Tryz.prog 28 #[.slice A n c] w (AxPost (axE rs) (axLong (Zj (qM rs) 0 0) (Zj (qM rs) 0 1) (Zj (qM rs) 1 1)) (axShort (Zj (qM rs) 0 0) (Zj (qM rs) 0 1) (Zj (qM rs) 1 1)) w):=by
 have hmx:=Gt;have q4:=Zd h.1;have E7:=h.2.1;have x5:=h.2.2.1;unfold maxLen at x5;obtain⟨W0,t5,e7,⟨q0,q1,q2⟩,s0⟩:=Zb2 w 39 #[.bool false,.slice none 0 0] 39 #[.bool false,.slice none 0 0] 26 #[.int .i64 0];have hC:=Zd (Zim A n c rs W0 (h.below e7) hF);have hH:=Zd (h.below e7);replace hS:=Zd hS;replace q0:=Zd q0;replace q1:=Zd q1;replace q2:=Zd q2;replace e7:=Zd e7;clear h hF;replace s0:=Zd s0
 go_enter_defers Tryz.func28,Tryz.ntmps28
 go_wp2_with fail;(try rw[t5]);clear t5;refine hC.out.mono ?_;rintro e w1 ⟨a9,⟨h0,v1,v2,L0,rfl,z9⟩|⟨h0,rfl⟩⟩
 case inr =>
  have g2:=Gs e7.out a9;have k0:=Ze a9 q0.out;have k1:=Ze a9 q1.out;have k2:=Ze a9 q2.out;obtain⟨E,hE⟩:=Gz (Za9 rs);rw[hE]at h0 ⊢;have r5:=Zd h0;have m0:=Zd (axE_cov hE h0);replace hE:=Zd hE;go_wp2_with fail;refine leaves_cons (f:=39) (args:=#[.pointer (some ⟨w.heap.size+1+1,0,none⟩)]) Gh Gd ?_;have e0:=(k2).cell 0;simp at e0;refine(Za4 ⟨w.heap.size+1+1,0,none⟩ E 0 _ e0 ((k2).frozen 0)).mono ?_;rintro e u' w'' ⟨rfl,rfl,hw⟩;obtain⟨V,hV,p9,-,-,hk,sV⟩:=Zq 117 #[.int .i64 E] (g2) ((g2).size);obtain⟨U,hU,n8,q3,-,kq,-⟩:=Zak E p9 Gk (hk _ _ _ (k2));rw[hV,hU]at hw;subst hw;have r4:=q3.cell 0;simp at r4;obtain⟨d0,d1,-⟩:=(kq _ _ _ Gk (hk _ _ _ (k0))).two;obtain⟨d2,d3,-⟩:=(kq _ _ _ Gk (hk _ _ _ (k1))).two;exact⟨.tuple #[.agg #[.bool false,.slice none 0 0],.agg #[.bool false,.slice none 0 0],.int .i64 E],by simp[results,Tryz.results28,go_sem,r4,d0,d1,d2,d3],AxPost.fall n8 m0.out (by first|decide|assumption|exact r5.out)⟩
 have o2:=Zd (hS.out h0);obtain⟨p6,z8,y8⟩:=Zhp h0;have g9:=p6.row hH.out;have hM:=Zd ((p6.good hH.out).below a9);have g2:=Gn e7 a9;replace q0:=Gm a9 q0;replace q1:=Gm a9 q1;replace q2:=Gm a9 q2;replace h0:=Zd h0;replace g9:=Zd g9;clear z9 p6 z8 y8 hC hH e7 a9 L0 hS;by_cases n6:n=2
 case neg =>
  have t1:((n:Int) == 2)=false:=by simp;omega
  have E0:decide ((n:Int)=2)=false:=Gu Gk;have A4:decide (n=2)=false:=Gu n6;have m0:=Zd (axE_bad h0.out (by rw[q4.out];exact n6));replace n6:=Zd n6;go_wp2_with fail;refine(Zax 8 w1).mono ?_;rintro e w6 ⟨rfl,rfl⟩;go_wp2_with fail;refine leaves_cons (f:=39) (args:=#[.pointer (some ⟨w.heap.size+1+1,0,none⟩)]) Gh Gd ?_;have e0:=(q2.out).cell 0;simp at e0;refine(Za4 ⟨w.heap.size+1+1,0,none⟩ 8 0 _ e0 ((q2.out).frozen 0)).mono ?_;rintro e u' w'' ⟨rfl,rfl,hw⟩;obtain⟨V,hV,p9,-,-,hk,sV⟩:=Zq 117 #[.int .i64 8] (g2.out) ((g2.out).size);obtain⟨U,hU,n8,q3,-,kq,-⟩:=Zak 8 p9 Gk (hk _ _ _ (q2.out));rw[hV,hU]at hw;subst hw;have r4:=q3.cell 0;simp at r4;obtain⟨d0,d1,-⟩:=(kq _ _ _ Gk (hk _ _ _ (q0.out))).two;obtain⟨d2,d3,-⟩:=(kq _ _ _ Gk (hk _ _ _ (q1.out))).two;exact⟨.tuple #[.agg #[.bool false,.slice none 0 0],.agg #[.bool false,.slice none 0 0],.int .i64 8],by simp[results,Tryz.results28,go_sem,r4,d0,d1,d2,d3],AxPost.fall n8 m0.out (by first|decide|assumption|exact r5.out)⟩
 subst n6;have m0:=Zd (Ztv h0.out q4.out);obtain⟨p1,p2,p3,-⟩:=Zzh h0.out q4.out;obtain⟨g,o,-,-,-,rfl,-,-⟩:=hM.out.at_ (k:=0) Gj;obtain⟨gi,oi,ci,rI,C7,r7,p8⟩:=hM.out.ents g9.out (I:=0) Gj;obtain⟨gk,ok,ck,rK,C8,t9,r3⟩:=hM.out.ents g9.out (I:=1) Gj;unfold maxLen at r7 t9;obtain⟨an,aA,ak,ac,am,aB,aj,ad,⟨a0,a1,a2,a3⟩,b7⟩:=p8 0 Gj;obtain⟨bn,bA,bk,bc,bm,bB,bj,bd,⟨b0,b1,b2,b3⟩,b5⟩:=p8 1 Gj;obtain⟨dn,dA,dk,dc,dm,dB,dj,dd,⟨d0,d1,d2,d3⟩,b6⟩:=r3 1 Gj;have sx:=o2.out 0 0;have sy:=o2.out 0 1;have sz:=o2.out 1 1;obtain⟨x,hx⟩:=Gz (Zj (qM rs) 0 0);obtain⟨y,hy⟩:=Gz (Zj (qM rs) 0 1);obtain⟨z,hz⟩:=Gz (Zj (qM rs) 1 1);rw[hx]at b7 sx p1 p3;rw[hy]at b5 sy p3;rw[hz]at b6 sz p2 p3;have r2:=Zd hx;have v5:=Zd hy;have w7:=Zd hz;have eL:=Zd (Zup sx sy sz p1 p2);have eS:=Zd (Zsx sx sy sz p1 p2 p3);have s1:Hid (Sm x):=Zd (sx.sm Gj Gj);have s2:Hid (Sm y):=Zd (sy.sm Gj Gj);have s3:Hid (Sm z):=Zd (sz.sm Gj Gj);have s4:Hid (Sm (axT x z)):=Zd ((sz_t sx sz).sm Gj Gj);have s5:Hid (Sm (axD x z)):=Zd ((sz_d sx sz).sm Gj Gj);have s6:Hid (Sm (Zey x z)):=Zd ((Zn5 sx sz).sm Gj Gj);have s7:Hid (Sm (Zey x z*Zey x z)):=Zd (((Zn5 sx sz).mulN (Zn5 sx sz)).sm Gj Gj);have s8:Hid (Sm (y*y)):=Zd ((sy.mulN sy).sm Gj Gj);have sH:Hid (Sm axH):=Zd (smH.sm Gj Gj);clear sx sy sz hx hy hz p8 r3 o2 p1 p2 p3 g9 hM h0;replace b7:=Zd b7;replace b5:=Zd b5;replace b6:=Zd b6;have tt:((2:Int) == 2)=true:=Gj;have E1:(0:Int)<((2:Nat):Int):=Gj;have F9:(1:Int)<((2:Nat):Int):=Gj
 replace rI:w1.cell? ⟨g,o,none⟩=some (.slice (some ⟨gi,oi,none⟩) 2 ci):=rI;replace rK:w1.cell? ⟨g,o+1,none⟩=some (.slice (some ⟨gk,ok,none⟩) 2 ck):=rK;replace a0:w1.cell? ⟨gi,oi,none⟩=some (.bool an):=a0;replace a1:w1.cell? ⟨gi,oi+1,none⟩=some (.slice aA ak ac):=a1;replace a2:w1.cell? ⟨gi,oi+2,none⟩=some (.bool am):=a2;replace a3:w1.cell? ⟨gi,oi+3,none⟩=some (.slice aB aj ad):=a3;replace b0:w1.cell? ⟨gi,oi+4,none⟩=some (.bool bn):=b0;replace b1:w1.cell? ⟨gi,oi+4+1,none⟩=some (.slice bA bk bc):=b1;replace b2:w1.cell? ⟨gi,oi+4+2,none⟩=some (.bool bm):=b2;replace b3:w1.cell? ⟨gi,oi+4+3,none⟩=some (.slice bB bj bd):=b3;replace d0:w1.cell? ⟨gk,ok+4,none⟩=some (.bool dn):=d0;replace d1:w1.cell? ⟨gk,ok+4+1,none⟩=some (.slice dA dk dc):=d1;replace d2:w1.cell? ⟨gk,ok+4+2,none⟩=some (.bool dm):=d2;replace d3:w1.cell? ⟨gk,ok+4+3,none⟩=some (.slice dB dj dd):=d3
 have n9:Hid (∀ W9,Below w1.heap.size w1 W9->(W9.cell? ⟨g,o,none⟩=some (.slice (some ⟨gi,oi,none⟩) 2 ci))/\(W9.cell? ⟨g,o+1,none⟩=some (.slice (some ⟨gk,ok,none⟩) 2 ck))/\(W9.cell? ⟨gi,oi,none⟩=some (.bool an))/\(W9.cell? ⟨gi,oi+1,none⟩=some (.slice aA ak ac))/\(W9.cell? ⟨gi,oi+2,none⟩=some (.bool am))/\(W9.cell? ⟨gi,oi+3,none⟩=some (.slice aB aj ad))/\(W9.cell? ⟨gi,oi+4,none⟩=some (.bool bn))/\(W9.cell? ⟨gi,oi+4+1,none⟩=some (.slice bA bk bc))/\(W9.cell? ⟨gi,oi+4+2,none⟩=some (.bool bm))/\(W9.cell? ⟨gi,oi+4+3,none⟩=some (.slice bB bj bd))/\(W9.cell? ⟨gk,ok+4,none⟩=some (.bool dn))/\(W9.cell? ⟨gk,ok+4+1,none⟩=some (.slice dA dk dc))/\(W9.cell? ⟨gk,ok+4+2,none⟩=some (.bool dm))/\(W9.cell? ⟨gk,ok+4+3,none⟩=some (.slice dB dj dd))):=Zd (λW9 h9=>⟨Zc h9 rI,Zc h9 rK,Zc h9 a0,Zc h9 a1,Zc h9 a2,Zc h9 a3,Zc h9 b0,Zc h9 b1,Zc h9 b2,Zc h9 b3,Zc h9 d0,Zc h9 d1,Zc h9 d2,Zc h9 d3⟩);have a5:Hid (Below w1.heap.size w1 w1):=Zd (Qa _ _);clear rI rK a0 a1 a2 a3 b0 b1 b2 b3 d0 d1 d2 d3;go_wp2_with fail;refine(Zb4 8 w1).mono ?_;rintro e w6 ⟨rfl,rfl⟩;go_wp2_with fail;refine(Zri 1 2 w6 Gj Gj Gj Gj).mono ?_;rintro e w1 ⟨a9,hn,hA,hk,hc,hm,hB,hj,hd,rfl,bV⟩;replace a5:=Gn a5 a9;replace q0:=Gm a9 q0;replace q1:=Gm a9 q1;replace q2:=Gm a9 q2;replace b7:=Zd (b7.out.below a9)
 replace b5:=Zd (b5.out.below a9);replace b6:=Zd (b6.out.below a9);have p7:=Gn g2 a9;clear g2 a9;have p4:Fr w1 hn hA hk hc hm hB hj hd axH:=bV;clear bV;have bV:=p4;clear p4;replace bV:=Zd bV;obtain⟨g3,o4⟩:=Gz w1.heap.size;obtain⟨V5,w9,q7,e6⟩:=Zaq (w:=w1) 41 #[.bool hn,.slice hA hk hc,.bool hm,.slice hB hj hd];rw[o4]at q7;replace a5:=Gn a5 e6;replace q0:=Gm e6 q0;replace q1:=Gm e6 q1;replace q2:=Gm e6 q2;replace b7:=Zd (b7.out.below e6);replace b5:=Zd (b5.out.below e6);replace b6:=Zd (b6.out.below e6);replace bV:=Zd (bV.out.below e6);have q5:=Gn p7 e6;clear p7 e6;replace q7:=Zd q7;obtain⟨rI,rK,a0,a1,a2,a3,b0,b1,b2,b3,d0,d1,d2,d3⟩:=n9.out _ a5.out;obtain⟨h0,h1,h2,h3,-⟩:=q7.out.four;go_wp2_with fail;(try rw[o4]);(try rw[w9]);clear w9;replace o4:=Zd o4;clear h0 h1 h2 h3;have z6:Hid (w.heap.size+1+1<V5.heap.size):=Zd q2.out.lt;have k4:V5.cell? ⟨g3,0,none⟩=some (.bool hn):=q7.out.cell 0;have j7:V5.cell? ⟨g3,1,none⟩=some (.slice hA hk hc):=q7.out.cell 1;have k5:V5.cell? ⟨g3,2,none⟩=some (.bool hm):=q7.out.cell 2;have i6:V5.cell? ⟨g3,3,none⟩=some (.slice hB hj hd):=q7.out.cell 3
 have g6:Hid (∀ wx,Below V5.heap.size V5 wx->(wx.cell? ⟨g,o,none⟩=some (.slice (some ⟨gi,oi,none⟩) 2 ci))/\(wx.cell? ⟨g,o+1,none⟩=some (.slice (some ⟨gk,ok,none⟩) 2 ck))/\(wx.cell? ⟨gi,oi,none⟩=some (.bool an))/\(wx.cell? ⟨gi,oi+1,none⟩=some (.slice aA ak ac))/\(wx.cell? ⟨gi,oi+2,none⟩=some (.bool am))/\(wx.cell? ⟨gi,oi+3,none⟩=some (.slice aB aj ad))/\(wx.cell? ⟨gi,oi+4,none⟩=some (.bool bn))/\(wx.cell? ⟨gi,oi+4+1,none⟩=some (.slice bA bk bc))/\(wx.cell? ⟨gi,oi+4+2,none⟩=some (.bool bm))/\(wx.cell? ⟨gi,oi+4+3,none⟩=some (.slice bB bj bd))/\(wx.cell? ⟨gk,ok+4,none⟩=some (.bool dn))/\(wx.cell? ⟨gk,ok+4+1,none⟩=some (.slice dA dk dc))/\(wx.cell? ⟨gk,ok+4+2,none⟩=some (.bool dm))/\(wx.cell? ⟨gk,ok+4+3,none⟩=some (.slice dB dj dd))/\(wx.cell? ⟨g3,0,none⟩=some (.bool hn))/\(wx.cell? ⟨g3,1,none⟩=some (.slice hA hk hc))/\(wx.cell? ⟨g3,2,none⟩=some (.bool hm))/\(wx.cell? ⟨g3,3,none⟩=some (.slice hB hj hd))):=Zd (λwx ag=>⟨Zc ag rI,Zc ag rK,Zc ag a0,Zc ag a1,Zc ag a2,Zc ag a3,Zc ag b0,Zc ag b1,Zc ag b2,Zc ag b3,Zc ag d0,Zc ag d1,Zc ag d2,Zc ag d3,Zc ag k4,Zc ag j7,Zc ag k5,Zc ag i6⟩);have b4:Below V5.heap.size V5 V5.drew:=Zh (Qa _ _) 1;refine wp_heldS [] hmx g6 b4 (λhxs1=>?_);refine Zkb 14 [0,1,2,3,4,5,6,7,8,9,10,11,14,15] rfl Gi (g6.out _ b4) ?_
 iterate 14 (refine tkA ?_;try simp only[Qf,Zg9,Zgn,Zg3,Gr,Gq,Gp])
 refine tk0 ?_;refine Za5 [(12,32),(13,33),(16,36),(17,37),(18,7)] (λ_=>[]) [(12,32),(13,33),(16,36),(17,37),(18,7)] (Zah [(12,fl2V x z),(13,frV (axT x z)),(16,fl1V axH),(17,frV (Zan x z)),(18,Zq4 V5.heap.size 73 #[.bool false,.slice none 0 0,.bool false,.slice none 0 0])]) 1 Gi (λp _=>Zdy (Zw Zn2 (Zw Zbc (Zw Zgr (Zw Zbc (Zw Zcy Zej))))) p.1) (λwx h=>g6.out _ (Gs b4 h)) ?hop1 ?hfin1
 case hop1 =>
  intro p hp;simp only[QO,QG,or_false]at hp;simp only[Qi,Qk,Zaj,Qf,Zg9,Zgn,Zg3];rcases hp with rfl|rfl|rfl|rfl|rfl
  ·intro ν wx hb hP
   have ag:=Gs b4 hb;refine Zn (i:=12) rfl (λK hK=>?_);go_simp;exact hK.out _ _ ⟨_,rfl,(by simp only[Zah];exact⟨_,_,rfl,FL.pair2 (Qq _ _ _) ((b7.out.below ag).below ((Qa _ _).alloc (Qd _) _)) ((b6.out.below ag).below ((Qa _ _).alloc (Qd _) _))⟩),(Qa _ _).alloc (Qd _) _,trivial⟩
  ·intro ν wx hb hP
   have ag:=Gs b4 hb;have e4:=hP (12,32) Gh Gi;simp only[Zah]at e4;obtain⟨l5,n5,hν12,n7⟩:=e4;rw[hν12];refine Zn (i:=13) rfl (λK hK=>?_);go_simp;refine(Zrf l5 2 n5 [x,z] wx n7 Gj (Zqv s1.out) (Zt2 s1.out s3.out)).mono ?_;rintro e w5 ⟨ao,fn,fA,fk,fc,fm,fB,fj,fd,rfl,ar⟩;rw[sumF2]at ar;exact Ep
  ·intro ν wx hb hP
   have ag:=Gs b4 hb;refine Zn (i:=16) rfl (λK hK=>?_);exact FY
  ·intro ν wx hb hP
   have ag:=Gs b4 hb;have m5:=hP (13,33) Gh Gi;simp only[Zah]at m5;obtain⟨v8,r1,r6,v7,v9,w3,υ7,υ6,hν13,υ1⟩:=m5;rw[hν13];have e1:=hP (16,36) Gh Gi;simp only[Zah]at e1;obtain⟨m6,n3,hν16,m7⟩:=e1;rw[hν16];refine Zn (i:=17) rfl (λK hK=>?_);go_simp;refine(Zcs v8 r1 r6 v7 v9 w3 υ7 υ6 _ m6 1 n3 [axH] wx υ1 m7 Gj (Zes s4.out) (Zfm sH.out)).mono ?_;exact CW
  intro ν wx hb hP;have ag:=Gs b4 hb;refine Zn (i:=18) rfl (λK hK=>?_);exact Ei
 case hfin1 =>
  intro ν wx hb hP;have e4:=hP (12,32) Gh;simp only[Zah]at e4;obtain⟨s9,v0,hν12,-⟩:=e4;have m5:=hP (13,33) Gh;simp only[Zah]at m5;obtain⟨C2,B5,A0,B9,B2,C0,D0,B8,hν13,-⟩:=m5;have e1:=hP (16,36) Gh;simp only[Zah]at e1;obtain⟨v6,υ4,hν16,-⟩:=e1;have e3:=hP (17,37) Gh;simp only[Zah]at e3;obtain⟨h7,h5,h6,f7,e8,e9,g0,f9,hν17,o7⟩:=e3;have h4:=hP (18,7) Gh;simp only[Zah]at h4;obtain⟨d7,hν18,o5,m3⟩:=h4;simp only[Qi,Qk,Zaj,Qf,Zg9,Zgn,Zg3];rw[hν12,hν13,hν16,hν17,hν18];clear hν12 hν13 hν16 hν17 hν18 hP ν;have ag:=Gs b4 hb;have T:=m3.four;have e5:V5.heap.size<=d7:=o5;refine(Z5 h7 h5 h6 f7 e8 e9 g0 f9 ag e5 m3).elim (λZ1 hq=>?_);have c0:=T.1;have m2:=T.2.1;have l9:=T.2.2.1;have c3:=T.2.2.2.1;have f0:=T.2.2.2.2.1;have f1:=T.2.2.2.2.2.1;have f2:=T.2.2.2.2.2.2.1;have f3:=T.2.2.2.2.2.2.2;have hZ:=hq.1;refine wpAnyL_o 19 λK hK=>?_;go_simp;(try rw[hZ]);refine hK.out _ _ (λ_=>g6.out _ hq.2.1) ?_;clear hK K
  try simp only[Qf,Zg9,Zgn,Zg3,Gr,Gq,Gp]
  refine wpAnyL_fin ?_;have J:=hq.2.1;have a4:=hq.2.2.1;have a7:=Fr.keep o7 hq.2.2.2.1;have o1:=Zd e5;clear hq hZ c0 m2 l9 c3 f0 f1 f2 f3 T m3 o5 e5 ag hb b4 g6 hxs1 o7;replace a5:=Gn a5 J;replace q0:=Gm J q0;replace q1:=Gm J q1;replace q2:=Gm J q2;replace b7:=Zd (b7.out.below J);replace b5:=Zd (b5.out.below J);replace b6:=Zd (b6.out.below J);replace bV:=Zd (bV.out.below J);replace q7:=Gm J q7;have m1:=Gn q5 J;clear q5;replace rI:=Zc J rI;replace rK:=Zc J rK;replace a0:=Zc J a0;replace a1:=Zc J a1;replace a2:=Zc J a2;replace a3:=Zc J a3;replace b0:=Zc J b0;replace b1:=Zc J b1;replace b2:=Zc J b2;replace b3:=Zc J b3;replace d0:=Zc J d0;replace d1:=Zc J d1;replace d2:=Zc J d2;replace d3:=Zc J d3;replace k4:=Zc J k4;replace j7:=Zc J j7;replace k5:=Zc J k5;replace i6:=Zc J i6;clear J rI rK a0 a1 a2 a3 b0 b1 b2 b3 d0 d1 d2 d3 k4 j7 k5 i6;replace a4:=Zd a4;replace a7:=Zd a7;obtain⟨rI,rK,a0,a1,a2,a3,b0,b1,b2,b3,d0,d1,d2,d3⟩:=n9.out _ a5.out;obtain⟨h0,h1,h2,h3,-⟩:=q7.out.four;go_wp2_with fail;clear h0 h1 h2 h3;have i5:Z1.cell? ⟨g3,0,none⟩=some (.bool hn):=q7.out.cell 0;have k9:Z1.cell? ⟨g3,1,none⟩=some (.slice hA hk hc):=q7.out.cell 1
  have k7:Z1.cell? ⟨g3,2,none⟩=some (.bool hm):=q7.out.cell 2;have j4:Z1.cell? ⟨g3,3,none⟩=some (.slice hB hj hd):=q7.out.cell 3;have g8:Hid (∀ wx,Below Z1.heap.size Z1 wx->(wx.cell? ⟨g,o,none⟩=some (.slice (some ⟨gi,oi,none⟩) 2 ci))/\(wx.cell? ⟨g,o+1,none⟩=some (.slice (some ⟨gk,ok,none⟩) 2 ck))/\(wx.cell? ⟨gi,oi,none⟩=some (.bool an))/\(wx.cell? ⟨gi,oi+1,none⟩=some (.slice aA ak ac))/\(wx.cell? ⟨gi,oi+2,none⟩=some (.bool am))/\(wx.cell? ⟨gi,oi+3,none⟩=some (.slice aB aj ad))/\(wx.cell? ⟨gi,oi+4,none⟩=some (.bool bn))/\(wx.cell? ⟨gi,oi+4+1,none⟩=some (.slice bA bk bc))/\(wx.cell? ⟨gi,oi+4+2,none⟩=some (.bool bm))/\(wx.cell? ⟨gi,oi+4+3,none⟩=some (.slice bB bj bd))/\(wx.cell? ⟨gk,ok+4,none⟩=some (.bool dn))/\(wx.cell? ⟨gk,ok+4+1,none⟩=some (.slice dA dk dc))/\(wx.cell? ⟨gk,ok+4+2,none⟩=some (.bool dm))/\(wx.cell? ⟨gk,ok+4+3,none⟩=some (.slice dB dj dd))/\(wx.cell? ⟨g3,0,none⟩=some (.bool hn))/\(wx.cell? ⟨g3,1,none⟩=some (.slice hA hk hc))/\(wx.cell? ⟨g3,2,none⟩=some (.bool hm))/\(wx.cell? ⟨g3,3,none⟩=some (.slice hB hj hd))):=Zd (λwx ag=>⟨Zc ag rI,Zc ag rK,Zc ag a0,Zc ag a1,Zc ag a2,Zc ag a3,Zc ag b0,Zc ag b1,Zc ag b2,Zc ag b3,Zc ag d0,Zc ag d1,Zc ag d2,Zc ag d3,Zc ag i5,Zc ag k9,Zc ag k7,Zc ag j4⟩);have d6:Below Z1.heap.size Z1 Z1.drew:=Zh (Qa _ _) 1;refine wp_heldS [] hmx g8 d6 (λhxs2=>?_);refine Zkb 14 [0,1,2,3,4,5,6,7,8,9,10,11,13,14] rfl Gi (g8.out _ d6) ?_
  iterate 14 (refine tkA ?_;try simp only[Qf,Zg9,Zgn,Zg3,Gr,Gq,Gp])
  refine tk0 ?_;refine Za5 [(12,50),(15,53),(16,54),(17,8)] (λ_=>[]) [(12,50),(15,53),(16,54),(17,8)] (Zah [(12,frV (axD x z)),(15,fl1V axH),(16,frV (Zey x z)),(17,Zq4 Z1.heap.size 73 #[.bool false,.slice none 0 0,.bool false,.slice none 0 0])]) 1 Gi (λp _=>Zdy (Zw Zbc (Zw Zgr (Zw Zbc (Zw Zcy Zej)))) p.1) (λwx h=>g8.out _ (Gs d6 h)) ?hop2 ?hfin2
  case hop2 =>
   intro p hp;simp only[QO,QG,or_false]at hp;simp only[Qi,Qk,Zaj,Qf,Zg9,Zgn,Zg3];rcases hp with rfl|rfl|rfl|rfl
   ·intro ν wx hb hP
    have ag:=Gs d6 hb;refine Zn (i:=12) rfl (λK hK=>?_);go_simp;refine(Ze3 an am dn dm aA aB dA dB ak ac aj ad dk dc dj dd _ _ wx (b7.out.below ag) (b6.out.below ag) s1.out s3.out).mono ?_;exact Cc
   ·intro ν wx hb hP
    have ag:=Gs d6 hb;refine Zn (i:=15) rfl (λK hK=>?_);exact FY
   ·intro ν wx hb hP
    have ag:=Gs d6 hb;have e4:=hP (12,50) Gh Gi;simp only[Zah]at e4;obtain⟨v3,l5,t3,n5,t0,x0,w8,t8,hν12,n7⟩:=e4;rw[hν12];have l7:=hP (15,53) Gh Gi;simp only[Zah]at l7;obtain⟨υ2,v4,hν15,υ9⟩:=l7;rw[hν15];refine Zn (i:=16) rfl (λK hK=>?_);go_simp;refine(Zcs v3 l5 t3 n5 t0 x0 w8 t8 _ υ2 1 v4 [axH] wx n7 υ9 Gj (Zes s5.out) (Zfm sH.out)).mono ?_;exact CW
   intro ν wx hb hP;have ag:=Gs d6 hb;refine Zn (i:=17) rfl (λK hK=>?_);exact Ei
  case hfin2 =>
   intro ν wx hb hP;have e4:=hP (12,50) Gh;simp only[Zah]at e4;obtain⟨A9,s9,D3,v0,D6,C3,D1,D2,hν12,-⟩:=e4;have l7:=hP (15,53) Gh;simp only[Zah]at l7;obtain⟨A8,D7,hν15,-⟩:=l7;have e1:=hP (16,54) Gh;simp only[Zah]at e1;obtain⟨l4,i8,j9,k3,i7,j6,i9,i4,hν16,o9⟩:=e1;have e3:=hP (17,8) Gh;simp only[Zah]at e3;obtain⟨d8,hν17,p0,m8⟩:=e3;simp only[Qi,Qk,Zaj,Qf,Zg9,Zgn,Zg3];rw[hν12,hν15,hν16,hν17];clear hν12 hν15 hν16 hν17 hP ν;have ag:=Gs d6 hb;have T:=m8.four;have e5:Z1.heap.size<=d8:=p0;refine(Z5 l4 i8 j9 k3 i7 j6 i9 i4 ag e5 m8).elim (λZ2 hq=>?_);have c0:=T.1;have m2:=T.2.1;have l9:=T.2.2.1;have c3:=T.2.2.2.1;have f0:=T.2.2.2.2.1;have f1:=T.2.2.2.2.2.1;have f2:=T.2.2.2.2.2.2.1;have f3:=T.2.2.2.2.2.2.2;have hZ:=hq.1;refine wpAnyL_o 18 λK hK=>?_;go_simp;(try rw[hZ]);refine hK.out _ _ (λ_=>g8.out _ hq.2.1) ?_;clear hK K
   try simp only[Qf,Zg9,Zgn,Zg3,Gr,Gq,Gp]
   refine wpAnyL_fin ?_;have C:=hq.2.1;have b9:=hq.2.2.1;have e2:=Fr.keep o9 hq.2.2.2.1;have x2:=Zd e5;clear hq hZ c0 m2 l9 c3 f0 f1 f2 f3 T m8 p0 e5 ag hb d6 g8 hxs2 o9;replace a5:=Gn a5 C;replace q0:=Gm C q0;replace q1:=Gm C q1;replace q2:=Gm C q2;replace b7:=Zd (b7.out.below C);replace b5:=Zd (b5.out.below C);replace b6:=Zd (b6.out.below C);replace bV:=Zd (bV.out.below C);replace q7:=Gm C q7;replace a4:=Gm C a4;replace a7:=Zd (a7.out.below C);have m4:=Gn m1 C;clear m1;replace rI:=Zc C rI;replace rK:=Zc C rK;replace a0:=Zc C a0;replace a1:=Zc C a1;replace a2:=Zc C a2;replace a3:=Zc C a3;replace b0:=Zc C b0;replace b1:=Zc C b1;replace b2:=Zc C b2;replace b3:=Zc C b3;replace d0:=Zc C d0;replace d1:=Zc C d1;replace d2:=Zc C d2;replace d3:=Zc C d3;replace i5:=Zc C i5;replace k9:=Zc C k9;replace k7:=Zc C k7;replace j4:=Zc C j4;clear C rI rK a0 a1 a2 a3 b0 b1 b2 b3 d0 d1 d2 d3 i5 k9 k7 j4;replace b9:=Zd b9;replace e2:=Zd e2;clear q7 bV;obtain⟨rI,rK,a0,a1,a2,a3,b0,b1,b2,b3,d0,d1,d2,d3⟩:=n9.out _ a5.out;obtain⟨h0,h1,h2,h3,-⟩:=b9.out.four;go_wp2_with fail;clear h0 h1 h2 h3;have y7:Hid (w.heap.size+1+1<Z2.heap.size):=Zd q2.out.lt;have k8:Z2.cell? ⟨d8,0,none⟩=some (.bool l4):=b9.out.cell 0;have k6:Z2.cell? ⟨d8,1,none⟩=some (.slice i8 j9 k3):=b9.out.cell 1;have j5:Z2.cell? ⟨d8,2,none⟩=some (.bool i7):=b9.out.cell 2;have j8:Z2.cell? ⟨d8,3,none⟩=some (.slice j6 i9 i4):=b9.out.cell 3
   have g7:Hid (∀ wx,Below Z2.heap.size Z2 wx->(wx.cell? ⟨g,o,none⟩=some (.slice (some ⟨gi,oi,none⟩) 2 ci))/\(wx.cell? ⟨g,o+1,none⟩=some (.slice (some ⟨gk,ok,none⟩) 2 ck))/\(wx.cell? ⟨gi,oi,none⟩=some (.bool an))/\(wx.cell? ⟨gi,oi+1,none⟩=some (.slice aA ak ac))/\(wx.cell? ⟨gi,oi+2,none⟩=some (.bool am))/\(wx.cell? ⟨gi,oi+3,none⟩=some (.slice aB aj ad))/\(wx.cell? ⟨gi,oi+4,none⟩=some (.bool bn))/\(wx.cell? ⟨gi,oi+4+1,none⟩=some (.slice bA bk bc))/\(wx.cell? ⟨gi,oi+4+2,none⟩=some (.bool bm))/\(wx.cell? ⟨gi,oi+4+3,none⟩=some (.slice bB bj bd))/\(wx.cell? ⟨gk,ok+4,none⟩=some (.bool dn))/\(wx.cell? ⟨gk,ok+4+1,none⟩=some (.slice dA dk dc))/\(wx.cell? ⟨gk,ok+4+2,none⟩=some (.bool dm))/\(wx.cell? ⟨gk,ok+4+3,none⟩=some (.slice dB dj dd))/\(wx.cell? ⟨d8,0,none⟩=some (.bool l4))/\(wx.cell? ⟨d8,1,none⟩=some (.slice i8 j9 k3))/\(wx.cell? ⟨d8,2,none⟩=some (.bool i7))/\(wx.cell? ⟨d8,3,none⟩=some (.slice j6 i9 i4))):=Zd (λwx ag=>⟨Zc ag rI,Zc ag rK,Zc ag a0,Zc ag a1,Zc ag a2,Zc ag a3,Zc ag b0,Zc ag b1,Zc ag b2,Zc ag b3,Zc ag d0,Zc ag d1,Zc ag d2,Zc ag d3,Zc ag k8,Zc ag k6,Zc ag j5,Zc ag j8⟩);have a8:Below Z2.heap.size Z2 Z2.drew:=Zh (Qa _ _) 1;refine wp_heldS [] hmx g7 a8 (λhxs3=>?_);refine Zkb 14 [0,1,4,5,6,7,8,9,10,11,12,13,14,15] rfl Gi (g7.out _ a8) ?_
   iterate 14 (refine tkA ?_;try simp only[Qf,Zg9,Zgn,Zg3,Gr,Gq,Gp])
   refine tk0 ?_;refine Za5 [(2,57),(3,58),(16,71),(17,72),(18,73),(19,74),(20,9)] (λ_=>[]) [(2,57),(3,58),(16,71),(17,72),(18,73),(19,74),(20,9)] (Zah [(2,fl1V (Zey x z)),(3,frV (Zey x z*Zey x z)),(16,fl1V y),(17,frV (y*y)),(18,fl2V (Zey x z*Zey x z) (y*y)),(19,frV (Zhr x y z)),(20,Zq4 Z2.heap.size 73 #[.bool false,.slice none 0 0,.bool false,.slice none 0 0])]) 1 Gi (λp _=>Zdy (Zw Zgr (Zw Zbc (Zw Zgr (Zw Zbc (Zw Zn2 (Zw Zbc (Zw Zcy Zej))))))) p.1) (λwx h=>g7.out _ (Gs a8 h)) ?hop3 ?hfin3
   case hop3 =>
    intro p hp;simp only[QO,QG,or_false]at hp;simp only[Qi,Qk,Zaj,Qf,Zg9,Zgn,Zg3];rcases hp with rfl|rfl|rfl|rfl|rfl|rfl|rfl
    ·intro ν wx hb hP
     have ag:=Gs a8 hb;refine Zn (i:=2) rfl (λK hK=>?_);go_simp;exact hK.out _ _ ⟨_,rfl,(by simp only[Zah];exact⟨_,_,rfl,FL.sing1 (Qq _ _ _) ((e2.out.below ag).below ((Qa _ _).alloc (Qd _) _))⟩),(Qa _ _).alloc (Qd _) _,trivial⟩
    ·intro ν wx hb hP
     have ag:=Gs a8 hb;have h2:=hP (2,57) Gh Gi;simp only[Zah]at h2;obtain⟨z3,x9,hν2,x7⟩:=h2;rw[hν2];refine Zn (i:=3) rfl (λK hK=>?_);go_simp;refine(Zcs l4 i8 j9 k3 i7 j6 i9 i4 _ z3 1 x9 [Zey x z] wx (e2.out.below ag) x7 Gj (Zes s6.out) (Zfm s6.out)).mono ?_;exact CW
    ·intro ν wx hb hP
     have ag:=Gs a8 hb;refine Zn (i:=16) rfl (λK hK=>?_);go_simp;exact hK.out _ _ ⟨_,rfl,(by simp only[Zah];exact⟨_,_,rfl,FL.sing1 (Qq _ _ _) ((b5.out.below ag).below ((Qa _ _).alloc (Qd _) _))⟩),(Qa _ _).alloc (Qd _) _,trivial⟩
    ·intro ν wx hb hP
     have ag:=Gs a8 hb;have e1:=hP (16,71) Gh Gi;simp only[Zah]at e1;obtain⟨m6,n3,hν16,m7⟩:=e1;rw[hν16];refine Zn (i:=17) rfl (λK hK=>?_);go_simp;refine(Zcs bn bA bk bc bm bB bj bd _ m6 1 n3 [y] wx (b5.out.below ag) m7 Gj (Zes s2.out) (Zfm s2.out)).mono ?_;exact CW
    ·intro ν wx hb hP
     have ag:=Gs a8 hb;have h3:=hP (3,58) Gh Gi;simp only[Zah]at h3;obtain⟨E4,F5,D9,D8,F4,F0,F2,F7,hν3,z7⟩:=h3;rw[hν3];have e3:=hP (17,72) Gh Gi;simp only[Zah]at e3;obtain⟨A7,D5,B1,C5,C1,A6,C4,A5,hν17,w0⟩:=e3;rw[hν17];refine Zn (i:=18) rfl (λK hK=>?_);go_simp;exact hK.out _ _ ⟨_,rfl,(by simp only[Zah];exact⟨_,_,rfl,FL.pair2 (Qq _ _ _) ((z7).below ((Qa _ _).alloc (Qd _) _)) ((w0).below ((Qa _ _).alloc (Qd _) _))⟩),(Qa _ _).alloc (Qd _) _,trivial⟩
    ·intro ν wx hb hP
     have ag:=Gs a8 hb;have h4:=hP (18,73) Gh Gi;simp only[Zah]at h4;obtain⟨υ5,υ0,hν18,t4⟩:=h4;rw[hν18];refine Zn (i:=19) rfl (λK hK=>?_);go_simp;refine(Zrf υ5 2 υ0 [_,_] wx t4 Gj (Zqv s7.out) (Zt2 s7.out s8.out)).mono ?_;rintro e w5 ⟨ao,fn,fA,fk,fc,fm,fB,fj,fd,rfl,ar⟩;rw[sumF2]at ar;exact Ep
    intro ν wx hb hP;have ag:=Gs a8 hb;refine Zn (i:=20) rfl (λK hK=>?_);exact Ei
   case hfin3 =>
    intro ν wx hb hP;have h2:=hP (2,57) Gh;simp only[Zah]at h2;obtain⟨E6,E5,hν2,-⟩:=h2;have h3:=hP (3,58) Gh;simp only[Zah]at h3;obtain⟨F1,F3,E9,E8,F8,E2,F6,G0,hν3,-⟩:=h3;have e1:=hP (16,71) Gh;simp only[Zah]at e1;obtain⟨v6,υ4,hν16,-⟩:=e1;have e3:=hP (17,72) Gh;simp only[Zah]at e3;obtain⟨A3,C9,A1,B4,B7,C6,B6,D4,hν17,-⟩:=e3;have h4:=hP (18,73) Gh;simp only[Zah]at h4;obtain⟨B3,A2,hν18,-⟩:=h4;have w2:=hP (19,74) Gh;simp only[Zah]at w2;obtain⟨g5,f6,g1,g4,h8,f5,f4,f8,hν19,o8⟩:=w2;have r9:=hP (20,9) Gh;simp only[Zah]at r9;obtain⟨d9,hν20,o6,l6⟩:=r9;simp only[Qi,Qk,Zaj,Qf,Zg9,Zgn,Zg3];rw[hν2,hν3,hν16,hν17,hν18,hν19,hν20];clear hν2 hν3 hν16 hν17 hν18 hν19 hν20 hP ν;have ag:=Gs a8 hb;have T:=l6.four;have e5:Z2.heap.size<=d9:=o6;refine(Z5 g5 f6 g1 g4 h8 f5 f4 f8 ag e5 l6).elim (λZ3 hq=>?_);have c0:=T.1;have m2:=T.2.1;have l9:=T.2.2.1;have c3:=T.2.2.2.1;have f0:=T.2.2.2.2.1;have f1:=T.2.2.2.2.2.1;have f2:=T.2.2.2.2.2.2.1;have f3:=T.2.2.2.2.2.2.2;have hZ:=hq.1;refine wpAnyL_o 21 λK hK=>?_;go_simp;(try rw[hZ]);refine hK.out _ _ (λ_=>g7.out _ hq.2.1) ?_;clear hK K
    try simp only[Qf,Zg9,Zgn,Zg3,Gr,Gq,Gp]
    refine wpAnyL_fin ?_;have u:=hq.2.1;have a6:=hq.2.2.1;have b8:=Fr.keep o8 hq.2.2.2.1;have o3:=Zd e5;clear hq hZ c0 m2 l9 c3 f0 f1 f2 f3 T l6 o6 e5 ag hb a8 g7 hxs3 o8;replace a5:=Gn a5 u;replace q0:=Gm u q0;replace q1:=Gm u q1;replace q2:=Gm u q2;replace b7:=Zd (b7.out.below u);replace b5:=Zd (b5.out.below u);replace b6:=Zd (b6.out.below u);replace a4:=Gm u a4;replace a7:=Zd (a7.out.below u);replace b9:=Gm u b9;replace e2:=Zd (e2.out.below u);have m9:=Gn m4 u;clear m4;replace rI:=Zc u rI;replace rK:=Zc u rK;replace a0:=Zc u a0;replace a1:=Zc u a1;replace a2:=Zc u a2;replace a3:=Zc u a3;replace b0:=Zc u b0;replace b1:=Zc u b1;replace b2:=Zc u b2;replace b3:=Zc u b3;replace d0:=Zc u d0;replace d1:=Zc u d1;replace d2:=Zc u d2;replace d3:=Zc u d3;replace k8:=Zc u k8;replace k6:=Zc u k6;replace j5:=Zc u j5;replace j8:=Zc u j8;clear u rI rK a0 a1 a2 a3 b0 b1 b2 b3 d0 d1 d2 d3 k8 k6 j5 j8;replace a6:=Zd a6;replace b8:=Zd b8;clear b7 b5 b6 b9 e2;obtain⟨h0,h1,h2,h3,-⟩:=a4.out.four;obtain⟨i0,i1,i2,i3,-⟩:=a6.out.four;clear n9;go_wp2_with fail;clear h0 h1 h2 h3 i0 i1 i2 i3
    have d4:Z3.cell? ⟨d7,0,none⟩=some (.bool h7):=a4.out.cell 0;have c8:Z3.cell? ⟨d7,1,none⟩=some (.slice h5 h6 f7):=a4.out.cell 1;have c6:Z3.cell? ⟨d7,2,none⟩=some (.bool e8):=a4.out.cell 2;have c7:Z3.cell? ⟨d7,3,none⟩=some (.slice e9 g0 f9):=a4.out.cell 3;have c5:Z3.cell? ⟨d9,0,none⟩=some (.bool g5):=a6.out.cell 0;have c4:Z3.cell? ⟨d9,1,none⟩=some (.slice f6 g1 g4):=a6.out.cell 1;have c9:Z3.cell? ⟨d9,2,none⟩=some (.bool h8):=a6.out.cell 2;have d5:Z3.cell? ⟨d9,3,none⟩=some (.slice f5 f4 f8):=a6.out.cell 3;have Y:Below Z3.heap.size Z3 Z3.drew:=Zh (Qa _ _) 1;replace a5:=Gn a5 Y;replace q0:=Gm Y q0;replace q1:=Gm Y q1;replace q2:=Gm Y q2;replace a4:=Gm Y a4;replace a7:=Zd (a7.out.below Y);replace a6:=Gm Y a6;replace b8:=Zd (b8.out.below Y);have l8:=Gn m9 Y;clear m9;replace d4:=Zc Y d4;replace c8:=Zc Y c8;replace c6:=Zc Y c6;replace c7:=Zc Y c7;replace c5:=Zc Y c5;replace c4:=Zc Y c4;replace c9:=Zc Y c9;replace d5:=Zc Y d5;clear Y;refine Zz [7,8] (λwx=>(wx.cell? ⟨d7,0,none⟩=some (.bool h7))/\(wx.cell? ⟨d7,1,none⟩=some (.slice h5 h6 f7))/\(wx.cell? ⟨d7,2,none⟩=some (.bool e8))/\(wx.cell? ⟨d7,3,none⟩=some (.slice e9 g0 f9))/\(wx.cell? ⟨d9,0,none⟩=some (.bool g5))/\(wx.cell? ⟨d9,1,none⟩=some (.slice f6 g1 g4))/\(wx.cell? ⟨d9,2,none⟩=some (.bool h8))/\(wx.cell? ⟨d9,3,none⟩=some (.slice f5 f4 f8))) hmx ⟨d4,c8,c6,c7,c5,c4,c9,d5⟩ (λ_=>?_);refine Zkb 4 [0,1,3,4] rfl Gi ⟨d4,c8,c6,c7,c5,c4,c9,d5⟩ ?_
    iterate 4 (refine tkA ?_;try simp only[Qf,Zg9,Zgn,Zg3,Gr,Gq,Gp])
    refine tk0 ?_;refine wpAnyL_o 2 λK hK=>?_;go_simp;refine(Zv9 h7 h5 h6 f7 e8 e9 g0 f9 g5 f6 g1 g4 h8 f5 f4 f8 1 (Zan x z) (Zhr x y z) (axLong x y z) Z3.drew a7.out b8.out eL.out).mono ?_;rintro e y9 ⟨O,xn,xA,xk,xc,rfl,xf⟩;replace a5:=Gn a5 O;replace q0:=Gm O q0;replace q1:=Gm O q1;replace q2:=Gm O q2;replace a4:=Gm O a4;replace a7:=Zd (a7.out.below O);replace a6:=Gm O a6;replace b8:=Zd (b8.out.below O);have n4:=Gn l8 O;clear l8;replace d4:=Zc O d4;replace c8:=Zc O c8;replace c6:=Zc O c6;replace c7:=Zc O c7;replace c5:=Zc O c5;replace c4:=Zc O c4;replace c9:=Zc O c9;replace d5:=Zc O d5;clear O;replace xf:=Zd xf;refine hK.out _ _ (λ_=>⟨d4,c8,c6,c7,c5,c4,c9,d5⟩) ?_;clear hK K
    try simp only[Qf,Zg9,Zgn,Zg3,Gr,Gq,Gp]
    refine wpAnyL_o 5 λK hK=>?_;go_simp;refine(Zv9 h7 h5 h6 f7 e8 e9 g0 f9 g5 f6 g1 g4 h8 f5 f4 f8 (-1) (Zan x z) (Zhr x y z) (axShort x y z) y9 a7.out b8.out eS.out).mono ?_;rintro e E3 ⟨O,yn,yA,yk,yc,rfl,yf⟩;replace a5:=Gn a5 O;replace q0:=Gm O q0;replace q1:=Gm O q1;replace q2:=Gm O q2;replace a4:=Gm O a4;replace a7:=Zd (a7.out.below O);replace a6:=Gm O a6;replace b8:=Zd (b8.out.below O);replace xf:=Zd (xf.out.below O);have r8:=Gn n4 O;clear n4;replace d4:=Zc O d4;replace c8:=Zc O c8;replace c6:=Zc O c6;replace c7:=Zc O c7;replace c5:=Zc O c5;replace c4:=Zc O c4;replace c9:=Zc O c9;replace d5:=Zc O d5;clear O;replace yf:=Zd yf;refine hK.out _ _ (λ_=>⟨d4,c8,c6,c7,c5,c4,c9,d5⟩) ?_;clear hK K
    try simp only[Qf,Zg9,Zgn,Zg3,Gr,Gq,Gp]
    have lm:=o1.out;have ls:=o3.out;have y4:=z6.out;have x3:=y7.out;obtain⟨c0,c1,f0,f1⟩:=q0.out.two;obtain⟨W5,x6,x8,n0,kW,kB,-⟩:=Zaz xn xA xk xc r8.out (Qd _) q0.out;have q9:=kB _ _ _ Gk q1.out;have υ3:=kB _ _ _ Gk q2.out;obtain⟨j0,j1,j2,j3,-⟩:=(kB _ _ _ Gk a4.out).four;obtain⟨l0,l1,l2,l3,-⟩:=(kB _ _ _ Gk a6.out).four;have z4:Hid (_/\_/\_/\_/\_/\_/\_/\_):=Zd ⟨j0,j1,j2,j3,l0,l1,l2,l3⟩;clear j0 j1 j2 j3 l0 l1 l2 l3 lm ls y4 x3;have t7:=kW _ _ _ _ _ xf.out;have υ8:=kW _ _ _ _ _ yf.out;obtain⟨c2,c3,f2,f3⟩:=q9.two;obtain⟨W6,y6,x4,n1,q8,p5,-⟩:=Zaz yn yA yk yc x8 Gk q9;have t6:=p5 _ _ _ Gk n0;have o0:=p5 _ _ _ Gk υ3;have x1:=q8 _ _ _ _ _ t7;have w4:=q8 _ _ _ _ _ υ8;have e0:=o0.cell 0;have z0:=o0.frozen 0;simp at e0;obtain⟨U,hU,n8,n2,r0,q6,-⟩:=Zak 0 x4 Gk o0;have r4:=n2.cell 0;simp at r4;obtain⟨y0,y1,-⟩:=(q6 _ _ _ Gk t6).two;obtain⟨y2,y3,-⟩:=(q6 _ _ _ Gk n1).two;have z5:=Zd (r0 _ _ _ _ _ x1);have y5:=Zd (r0 _ _ _ _ _ w4);clear kW kB q8 p5 r0 q6 t7 υ8 x1 w4 n0 n1 t6 q9 υ3 o0;refine wpAnyL_o 6 λK hK=>?_;go_simp;(try rw[x6]);refine hK.out _ _ (λ_=>z4.out) ?_;clear hK K
    try simp only[Qf,Zg9,Zgn,Zg3,Gr,Gq,Gp]
    refine Zy (i:=7) rfl Gi Gi (λK hK=>?_);go_simp;(try rw[y6]);refine hK.out _ _ ?_;clear hK K
    try simp only[Qf,Zg9,Zgn,Zg3,Gr,Gq,Gp]
    refine Zy (i:=8) rfl Gi Gi (λK hK=>?_);go_simp;(try rw[hU]);refine hK.out _ _ ?_;clear hK K
    try simp only[Qf,Zg9,Zgn,Zg3,Gr,Gq,Gp]
    refine wpAnyL_fin ?_;go_wp2_with fail;refine leaves_cons (f:=39) (args:=#[.pointer (some ⟨w.heap.size+1+1,0,none⟩)]) Gh Gd ?_;refine(Zeu _ _).mono ?_;rintro e u' w'' ⟨rfl,rfl,rfl⟩;exact⟨.tuple #[.agg #[.bool xn,.slice xA xk xc],.agg #[.bool yn,.slice yA yk yc],.int .i64 0],by simp[results,Tryz.results28,go_sem,r4,y0,y1,y2,y3],n8,.inl ⟨m0.out,_,_,_,_,_,_,_,_,rfl,by rw[r2.out,v5.out,w7.out];exact z5.out,by rw[r2.out,v5.out,w7.out];exact y5.out⟩⟩
def n0I(rs:List RI):Nat:=(rs[0]?.map RI.n).getD 0
def Zq6(k:Nat)(r:RI):Bool:=decide (r.n=k) && !Zit (-1099511627776) r.l
def Zlx(rs:List RI):Bool:=decide (200<rs.length) || rs.any RI.long
def sysB(rs:List RI)(right weights:List Int):Bool:=
 !decide (n0I rs=0) && (decide (weights.length=rs.length) && (decide (right.length=rs.length) && (!Zit 1 weights && (!Zit (-1099511627776) right && rs.all (Zq6 (n0I rs))))))
def Zd8(rs:List RI)(right weights:List Int):Int:=if Zlx rs=true then 4 else if sysB rs right weights=true then 0 else 8
theorem Zo7{rs:List RI}{a b:List Int}(h:Zlx rs=true):Zd8 rs a b=4:=by unfold Zd8;rw[Gx h]
theorem Zzm{rs:List RI}{a b:List Int}(h:Zlx rs=false)(h0:sysB rs a b=false):Zd8 rs a b=8:=by unfold Zd8;rw[Gw (by simp[h]),Gw (by simp[h0])]
theorem sysE_ok{rs:List RI}{a b:List Int}(h:Zlx rs=false)(h0:sysB rs a b=true):Zd8 rs a b=0:=by unfold Zd8;rw[Gw (by simp[h]),Gx h0]
theorem n0I_at{rs:List RI}{r:RI}(h:rs[0]?=some r):n0I rs=r.n:=by unfold n0I;rw[h];rfl
theorem EI{G:Prop}(h:G:=by
 go_in;go_wp2_with fail;refine(hC.out _ (by first|exact Below.refl _ _|exact Zh Below.refl _ _ _)).mono ?_;rintro e w1 ⟨rfl,ab⟩;have ae:Below w.heap.size w w1:=by first|exact ab|exact(Below.refl _ _).trans (ab.mono (Below.refl _ _).size)|exact(Zh (Below.refl _ _) _).trans (ab.mono (Below.refl _ _).size)
 clear ab;go_wp2_with fail;go_ret;exact⟨rfl,by first|exact ae|exact Zh ae _⟩):G:=h
theorem Ej{G:Prop}(h:G:=by
 go_in;go_wp2_with fail;refine(hC.out _ (by first|exact Below.refl _ _|exact Zh Below.refl _ _ _)).mono ?_;rintro e w1 ⟨rfl,ab⟩;have ae:Below w.heap.size w w1:=by first|exact ab|exact(Below.refl _ _).trans (ab.mono (Below.refl _ _).size)|exact(Zh (Below.refl _ _) _).trans (ab.mono (Below.refl _ _).size)
 clear ab;have k1:=Zc ae c0;go_wp2_with fail;go_ret;exact⟨rfl,by first|exact ae|exact Zh ae _⟩):G:=h
theorem Zlu(A B C:Option Addr)(n c m d k e0:Nat)(rs:List RI)(rr ws:List Int)(w:World)(h:MIL w A n c rs)(hr:LimI w B m d rr)(hw:LimI w C k e0 ws)(E:Int)(hE:Zd8 rs rr ws=E) :
    Calls Tryz.prog 54 #[.slice A n c,.slice B m d,.slice C k e0] w λe w'=>e=.returned (.int .i64 E)/\Below w.heap.size w w':=by
 have hl:=h.1;have c6:=h.2.1;have b5:=h.2.2.1;have a7:=hr.1;have a2:=hw.1;have c2:=hr.nlen;have b8:=hw.nlen;unfold maxLen at b5 c2 b8;replace hE:=Zd hE;by_cases h12:200<n
 ·have t1:decide ((200:Int)<(n:Int))=true:=Gv Gk
  obtain rfl:E=4:=by rw[<- hE.out];exact Zo7 (by unfold Zlx;rw[hl,Gv h12];rfl)
  go_in;go_wp2_with fail;go_ret;exact⟨rfl,by first|exact Qa _ _|exact Zh Qa _ _ _⟩
 have t1:decide ((200:Int)<(n:Int))=false:=Gu Gk;obtain⟨x,hx⟩:=Gz (rs.any RI.long);have a0:Zlx rs=x:=by unfold Zlx;rw[hl,Gu h12,hx];rfl
 have hC:=Zd (λW1 (hb:Below w.heap.size w W1)=>Zvs A n c rs W1 (h.below hb) x hx);clear hx;replace a0:=Zd a0;cases x
 case true =>
  obtain rfl:E=4:=by rw[<- hE.out];exact Zo7 a0.out
  clear h;exact EI
 have u:sysB rs rr ws=false->E=8:=λhf=>by rw[<- hE.out];exact Zzm a0.out hf
 have f:sysB rs rr ws=true->E=0:=λhf=>by rw[<- hE.out];exact sysE_ok a0.out hf
 unfold sysB at u f;rw[a7,a2,hl]at u f;replace u:=Zd u;replace f:=Zd f;clear hE;by_cases hn0:n=0
 ·subst hn0
  obtain rfl:E=8:=u.out (by
   have:rs=[]:=Qw hl;rw[this];rfl)
  clear h f u;exact EI
 have t2:((n:Int) == 0)=false:=by simp;omega
 have c3:decide (n=0)=false:=by simpa using hn0
 obtain⟨g,o,r0,rfl,b1,c0,b4⟩:=h.at_ (i:=0) Gk;have b3:=b4.nlen;unfold maxLen at b3;have T:=n0I_at b1;clear b1 b4;rw[Nat.add_zero]at c0;have c5:=Zp c0;rw[T]at u f;by_cases hz:r0.n=0
 ·obtain rfl:E=8:=u.out (by rw[Gv hz];rfl)
  have t3:((r0.n:Int) == 0)=true:=by simp[hz]
  have b2:decide (r0.n=0)=true:=by simpa using hz
  clear u f;replace h:=Zd h;replace T:=Zd T;replace hz:=Zd hz;exact Ej
 have t3:((r0.n:Int) == 0)=false:=by simpa using hz
 have b2:decide (r0.n=0)=false:=by simpa using hz
 rw[b2]at u f;replace h:=Zd h;replace hl:=Zd hl;replace a7:=Zd a7;replace a2:=Zd a2;replace T:=Zd T;replace hz:=Zd hz;by_cases V:k=n
 case neg =>
  have t4:((k:Int) == (n:Int))=false:=beq_eq_false_iff_ne.2 Gk;have b9:((k:Int) != (n:Int))=true:=by rw[bne,t4];rfl
  have a9:decide (k=n)=false:=by simpa using V
  obtain rfl:E=8:=u.out (by rw[a9];rfl);clear u f;replace V:=Zd V;exact Ej
 have t4:((k:Int) == (n:Int))=true:=beq_iff_eq.2 Gk;have b9:((k:Int) != (n:Int))=false:=by rw[bne,t4];rfl
 have a9:decide (k=n)=true:=by simpa using V
 rw[QM,Qr,a9,Qr]at u f;replace V:=Zd V;by_cases Y:m=n
 case neg =>
  have t5:((m:Int) == (n:Int))=false:=beq_eq_false_iff_ne.2 Gk;have b6:((m:Int) != (n:Int))=true:=by rw[bne,t5];rfl
  have a3:decide (m=n)=false:=by simpa using Y
  obtain rfl:E=8:=u.out (by rw[a3];rfl);clear u f;replace Y:=Zd Y;exact Ej
 have t5:((m:Int) == (n:Int))=true:=beq_iff_eq.2 Gk;have b6:((m:Int) != (n:Int))=false:=by rw[bne,t5];rfl
 have a3:decide (m=n)=true:=by simpa using Y
 rw[a3,Qr]at u f;replace Y:=Zd Y;obtain⟨xw,a5⟩:=Gz (Zit 1 ws);have hW:=Zd (λW1 (hb:Below w.heap.size w W1)=>Zg7 C k e0 ws 1 W1 (hw.below hb) xw a5);rw[a5]at u f;clear a5 hw;cases xw
 case true =>
  obtain rfl:E=8:=u.out rfl;clear u f;go_in;go_wp2_with fail;refine(hC.out _ (by first|exact Qa _ _|exact Zh Qa _ _ _)).mono ?_;rintro e w1 ⟨rfl,ab⟩;have ae:Below w.heap.size w w1:=by first|exact ab|exact(Qa _ _).trans (ab.mono (Qa _ _).size)|exact(Zh (Qa _ _) _).trans (ab.mono (Qa _ _).size)
  clear ab;have k1:=Zc ae c0;go_wp2_with fail;refine(hW.out _ (by first|exact ae|exact Zh ae _)).mono ?_;rintro e w2 ⟨rfl,I⟩;have y:Below w.heap.size w w2:=by first|exact I|exact(ae).trans (I.mono (ae).size)|exact(Zh (ae) _).trans (I.mono (ae).size)
  clear I;have k2:=Zc y c0;go_wp2_with fail;go_ret;exact⟨rfl,by first|exact y|exact Zh y _⟩
 rw[QM,Qr]at u f;obtain⟨xr,a4⟩:=Gz (Zit (-1099511627776) rr);have hR:=Zd (λW1 (hb:Below w.heap.size w W1)=>Zg7 B m d rr (-1099511627776) W1 (hr.below hb) xr a4);rw[a4]at u f;clear a4 hr;cases xr
 case true =>
  obtain rfl:E=8:=u.out rfl;clear u f;go_in;go_wp2_with fail;refine(hC.out _ (by first|exact Qa _ _|exact Zh Qa _ _ _)).mono ?_;rintro e w1 ⟨rfl,ab⟩;have ae:Below w.heap.size w w1:=by first|exact ab|exact(Qa _ _).trans (ab.mono (Qa _ _).size)|exact(Zh (Qa _ _) _).trans (ab.mono (Qa _ _).size)
  clear ab;have k1:=Zc ae c0;go_wp2_with fail;refine(hW.out _ (by first|exact ae|exact Zh ae _)).mono ?_;rintro e w2 ⟨rfl,I⟩;have y:Below w.heap.size w w2:=by first|exact I|exact(ae).trans (I.mono (ae).size)|exact(Zh (ae) _).trans (I.mono (ae).size)
  clear I;have k2:=Zc y c0;go_wp2_with fail;refine(hR.out _ (by first|exact y|exact Zh y _)).mono ?_;rintro e w3 ⟨rfl,O⟩;have U:Below w.heap.size w w3:=by first|exact O|exact(y).trans (O.mono (y).size)|exact(Zh (y) _).trans (O.mono (y).size)
  clear O;have k3:=Zc U c0;go_wp2_with fail;go_ret;exact⟨rfl,by first|exact U|exact Zh U _⟩
 rw[QM,Qr]at u f;go_in;go_wp2_with fail;refine(hC.out _ (by first|exact Qa _ _|exact Zh Qa _ _ _)).mono ?_;rintro e w1 ⟨rfl,ab⟩;have ae:Below w.heap.size w w1:=by first|exact ab|exact(Qa _ _).trans (ab.mono (Qa _ _).size)|exact(Zh (Qa _ _) _).trans (ab.mono (Qa _ _).size)
 clear ab;have k1:=Zc ae c0;go_wp2_with fail;refine(hW.out _ (by first|exact ae|exact Zh ae _)).mono ?_;rintro e w2 ⟨rfl,I⟩;have y:Below w.heap.size w w2:=by first|exact I|exact(ae).trans (I.mono (ae).size)|exact(Zh (ae) _).trans (I.mono (ae).size)
 clear I;have k2:=Zc y c0;go_wp2_with fail;refine(hR.out _ (by first|exact y|exact Zh y _)).mono ?_;rintro e w3 ⟨rfl,O⟩;have U:Below w.heap.size w w3:=by first|exact O|exact(y).trans (O.mono (y).size)|exact(Zh (y) _).trans (O.mono (y).size)
 clear O;have k3:=Zc U c0;go_wp2_with fail;clear hC hW hR ae y k1 k2
 go_loopw [50] (λiv wr=>∃ i:Nat,i<=n/\iv=.int .i64 i/\Hid (∀ j e,j<i->rs[j]?=some e->Zq6 r0.n e=true)/\Below w.heap.size w wr) (λiv _=>n-(intOf iv).toNat)
 case atStart=>exact⟨0,Nat.zero_le _,rfl,Zd (λj e hj=>by omega),(by first|exact U|exact Zh U _)⟩
 case round =>
  clear k3 U;obtain⟨i,c4,rfl,aw,J⟩:=hrel;have k0:=Zc J c0;clear c0;by_cases hin:i<n
  case neg =>
   obtain rfl:n=i:=Gk;have b7:decide ((n:Int)<(n:Int))=false:=Gh
   obtain rfl:E=0:=by
    refine f.out ?_;exact EZ
   clear u;go_wp2_with fail;go_ret;exact⟨rfl,J⟩
  have b7:decide ((i:Int)<(n:Int))=true:=Gv Gk;obtain⟨g',o',r,hA,he,c1,hL⟩:=(h.out.below J).at_ hin;cases hA;have b0:=hL.nlen;unfold maxLen at b0
  have bad:Zq6 r0.n r=false->E=8:=λhf=>u.out (by
   rw[List.all_eq_false];exact⟨r,Qv he,by rw[hf];decide⟩)
  have good:Zq6 r0.n r=true->Hid (∀ j e,j<i+1->rs[j]?=some e->Zq6 r0.n e=true):=λhf=>Zd (λj e' hj he'=>by
   rcases Qt j i with h'|h';exact aw.out j e' h' he';obtain rfl:j=i:=Gk;rw[he]at he';cases he';exact hf)
  replace bad:=Zd bad;replace good:=Zd good;replace he:=Zd he;clear u;by_cases hq:r.n=r0.n
  case neg =>
   have t6:((r.n:Int) == (r0.n:Int))=false:=beq_eq_false_iff_ne.2 Gk;have t7:((r.n:Int) != (r0.n:Int))=true:=by rw[bne,t6];rfl
   have a6:decide (r.n=r0.n)=false:=by simpa using hq
   obtain rfl:E=8:=bad.out (by unfold Zq6;rw[a6];rfl);clear hL f;go_wp2_with fail;go_ret;exact⟨rfl,by first|exact J|exact Zh J _⟩
  have t6:((r.n:Int) == (r0.n:Int))=true:=beq_iff_eq.2 Gk;have t7:((r.n:Int) != (r0.n:Int))=false:=by rw[bne,t6];rfl
  have a6:decide (r.n=r0.n)=true:=by simpa using hq
  obtain⟨x,hx⟩:=Gz (Zit (-1099511627776) r.l);have hC:=Zd (λW1 (hb:Below wr.heap.size wr W1)=>Zg7 r.A r.n r.c r.l (-1099511627776) W1 (hL.below hb) x hx);replace hx:=Zd hx;replace hq:=Zd hq;clear hL;cases x
  ·have a8:=good.out (by unfold Zq6;rw[a6,hx.out];rfl)
   go_wp2_with fail;refine(hC.out _ (by first|exact Qa _ _|exact Zh (Qa _ _) _)).mono ?_;rintro e' w4 ⟨rfl,a1⟩;go_wp2_with fail
   go_roundw
   case rel=>exact⟨i+1,by omega,by go_num,a8,(by first|exact Gs J a1|exact(Zh J _).trans (a1.mono J.size))⟩
   case measure=>simp[intOf];omega
  obtain rfl:E=8:=bad.out (by unfold Zq6;rw[hx.out];simp);clear f;go_wp2_with fail;refine(hC.out _ (by first|exact Qa _ _|exact Zh (Qa _ _) _)).mono ?_;rintro e' w4 ⟨rfl,a1⟩;go_wp2_with fail;go_ret;exact⟨rfl,(by first|exact Gs J a1|exact(Zh J _).trans (a1.mono J.size))⟩
structure RZ where
 g:Nat
 q:List Int
def RZ.rs(r:RZ):RS:=⟨some ⟨r.g,0,none⟩,r.q.length,r.q.length⟩
def MatZ(tS tF:TypeId)(w:World)(go:Nat)(L:List RZ):Prop:=
 (∃ zs,Blk w go tS (Z7 (L.map RZ.rs++zs)))/\(∀ r ∈ L,POwn tF w r.g r.q/\r.q.length<=maxLen)/\(go::L.map RZ.g).Nodup
section
variable{tS tF:TypeId}{w w':World}{go:Nat}{L:List RZ}
theorem MatZ.below(h:MatZ tS tF w go L)(hb:Below w.heap.size w w'):MatZ tS tF w' go L:=by
 exact IX
theorem MatZ.cell(h:MatZ tS tF w go L){i:Nat}{r:RZ}(hr:L[i]?=some r):w.cell? ⟨go,i,none⟩=some (.slice (some ⟨r.g,0,none⟩) r.q.length r.q.length)/\w.frozen? ⟨go,i,none⟩=false:=by
 exact FV
theorem MatZ.row(h:MatZ tS tF w go L){i:Nat}{r:RZ}(hr:L[i]?=some r):POwn tF w r.g r.q/\r.q.length<=maxLen:=h.2.1 r (Qv hr)
theorem MatZ.ne(h:MatZ tS tF w go L){i:Nat}{r:RZ}(hr:L[i]?=some r):go≠r.g:=λe=>by
 exact IM
theorem MatZ.ne2(h:MatZ tS tF w go L){i j:Nat}{r s:RZ}(hr:L[i]?=some r)(hs:L[j]?=some s)(aN:i≠j):r.g≠s.g:=λe=>by
 have hn:=(List.nodup_cons.1 h.2.2).2;have h1:(L.map RZ.g)[i]?=some r.g:=by rw[Qe,hr];rfl
 have h2:(L.map RZ.g)[j]?=some r.g:=by rw[Qe,hs,e];rfl
 exact Ic
theorem MatZ.boxes(h:MatZ tS tF w go L):∀ k,(k=go \/ k ∈ L.map RZ.g)->∃ t cs,Blk w k t cs/\NoLimb cs:=by
 exact Iz
theorem MatZ.set_(h:MatZ tS tF w go L){i:Nat}{r:RZ}(hr:L[i]?=some r){k:Nat}(hk:k<r.q.length){na:Bool}{A:Option Addr}{n c:Nat}{x:Int}(hf:Wd w na A n c x) :
    MatZ tS tF ((w.setCell ⟨r.g,k*2,none⟩ (.bool na)).setCell ⟨r.g,k*2+1,none⟩ (.slice A n c)) go (L.set i ⟨r.g,r.q.set k x⟩):=by
 have u:=h.ne hr;have y:=λ{j:Nat} {s:RZ} (hs:L[j]?=some s) (aN:j≠i)=>h.ne2 hs hr aN;have o:=h.row hr;have hi:=(List.getElem?_eq_some_iff.1 hr).1;obtain⟨⟨zs,h1⟩,h2,h3⟩:=h;refine⟨⟨zs,?_⟩,λs hs=>?_,?_⟩
 ·have e:(L.set i ⟨r.g,r.q.set k x⟩).map RZ.rs=L.map RZ.rs:=by
    rw[QR];apply Ql;intro j;rw[QC];by_cases aN:i=j
    ·subst aN
     rw[Gx rfl,Gx (by simpa using hi),Qe,hr];simp[RZ.rs]
    rw[Gw aN]
  rw[e];exact(h1.far u _).far u _
 ·obtain⟨j,hj,C⟩:=Qn hs
  have f:(L.set i ⟨r.g,r.q.set k x⟩)[j]?=some s:=by rw[Qb hj,C]
  rw[QC]at f;by_cases aN:i=j
  ·subst aN
   rw[Gx rfl,Gx hi]at f;cases f;exact⟨o.1.set_ hk hf,by simpa using o.2⟩
  rw[Gw aN]at f;have:=h2 s (Qv f);exact⟨this.1.other o.1 (y f (Ne.symm aN)) _ _ _ _ _,this.2⟩
 have e:(L.set i ⟨r.g,r.q.set k x⟩).map RZ.g=L.map RZ.g:=by
   exact FM
 rw[e];exact h3
theorem MatZ.swap(h:MatZ tS tF w go L){i j:Nat}{r s:RZ}(hr:L[i]?=some r)(hs:L[j]?=some s) :
    MatZ tS tF ((w.setCell ⟨go,i,none⟩ (.slice (some ⟨s.g,0,none⟩) s.q.length s.q.length)).setCell ⟨go,j,none⟩ (.slice (some ⟨r.g,0,none⟩) r.q.length r.q.length)) go (Zag L i j):=by
 have hi:=(List.getElem?_eq_some_iff.1 hr).1;have hj:=(List.getElem?_eq_some_iff.1 hs).1;have y:=λ{j:Nat} {s:RZ} (hs:L[j]?=some s)=>h.ne hs;obtain⟨⟨zs,h1⟩,h2,h3⟩:=h;have o:=h1.set_ i (.slice (some ⟨s.g,0,none⟩) s.q.length s.q.length);have J:NoLimb ((Z7 (L.map RZ.rs++zs)).setIfInBounds i (.slice (some ⟨s.g,0,none⟩) s.q.length s.q.length)):=Zgm (Zbe _) i (λx=>by simp);have O:=o.set_ j (.slice (some ⟨r.g,0,none⟩) r.q.length r.q.length)
 have hk:∀ (A:Option Addr) (n c:Nat) (l:List Nat),Lim w A n c l->Lim ((w.setCell ⟨go,i,none⟩ (.slice (some ⟨s.g,0,none⟩) s.q.length s.q.length)).setCell ⟨go,j,none⟩ (.slice (some ⟨r.g,0,none⟩) r.q.length r.q.length)) A n c l:=
  λA n c l hl=>(hl.set_box h1 (Zbe _) _ _).set_box o J _ _
 refine⟨⟨zs,?_⟩,λx hx=>?_,?_⟩
 ·have e:Z7 ((Zag L i j).map RZ.rs++zs)=((Z7 (L.map RZ.rs++zs)).setIfInBounds i (.slice (some ⟨s.g,0,none⟩) s.q.length s.q.length)).setIfInBounds j (.slice (some ⟨r.g,0,none⟩) r.q.length r.q.length):=by
    have e1:=Zdz (es:=L.map RZ.rs++zs) (i:=i) s.rs;have e2:=Zdz (es:=(L.map RZ.rs++zs).set i s.rs) (i:=j) r.rs;simp only[RZ.rs]at e1 e2;rw[e1,e2,Z0j hr hs];congr 1;rw[QR,QR,QN _ _ (by simpa using hi),QN _ _ (by simpa using hj)];rfl
  rw[e];exact O
 ·have f:=Zi8 L i j x hx
  obtain⟨es,q1,q2,q3⟩:=(h2 x f).1;obtain⟨k,I,C⟩:=Qn f;have u:x.g≠go:=Ne.symm (y (j:=k) (s:=x) (by rw[Qb I,C]));exact⟨⟨es,(q1.far u _).far u _,λe he=>⟨hk _ _ _ _ (q2 e he).1,(q2 e he).2⟩,q3⟩,(h2 x f).2⟩
 rw[List.nodup_cons]at h3 ⊢;rw[Zle];refine⟨λhm=>h3.1 (Zi8 _ _ _ _ hm),Zts h3.2 (by simpa using hi) (by simpa using hj)⟩
theorem MatZ.keptG{G:Nat->Prop}(h:MatZ tS tF w go L)(hk:Kept G w w')(hg:¬ G go)(hgs:∀ r ∈ L,¬ G r.g)(hG:∀ k,G k->∃ t cs,Blk w k t cs/\NoLimb cs):MatZ tS tF w' go L:=by
 obtain⟨⟨zs,h1⟩,h2,h3⟩:=h;refine⟨⟨zs,hk.blk h1 hg⟩,λr hr=>⟨?_,(h2 r hr).2⟩,h3⟩;obtain⟨es,q1,q2,q3⟩:=(h2 r hr).1;exact⟨es,hk.blk q1 (hgs r hr),λe he=>⟨hk.lim (q2 e he).1 hG,(q2 e he).2⟩,q3⟩
end
def Za1(L:List RZ)(i:Nat):List Int:=(L[i]?.map RZ.q).getD []
theorem Zht{L:List RZ}{i:Nat}{r:RZ}(h:L[i]?=some r):Za1 L i=r.q:=by unfold Za1;rw[h];rfl
theorem Zkp(L:List RZ)(i j:Nat):Zaf (L.map RZ.q) i j=(Za1 L i)[j]?.getD 0:=by unfold Zaf Za1;rw[Qe]
theorem Zk1(L:List RZ)(i:Nat):Za1 L i=(L.map RZ.q)[i]?.getD []:=by unfold Za1;rw[Qe]
theorem Zxa{L:List RZ}{i j:Nat}{r:RZ}(hi:i<L.length):Za1 (L.set i r) j=if j=i then r.q else Za1 L j:=by
 unfold Za1;exact Ie
theorem Z0k{L:List RZ}{R:List (List Int)}(hl:L.length=R.length)(h:∀ i,i<R.length->Za1 L i=R[i]?.getD []):L.map RZ.q=R:=by
 apply Ql;intro i;rw[Qe];by_cases hi:i<R.length
 ·have:=h i hi
  unfold Za1 at this;exact FB
 rw[Qg Gk,Qg Gk];rfl
theorem Zt1{R:List (List Int)}{r col i:Nat}{last:Int}(hi:i<R.length):(Zdx R r col last)[i]?.getD []=if i<=r then R[i]?.getD []else Zry (R[r]?.getD []) (R[i]?.getD []) col (Zaf R r col) last:=by
 unfold Zdx;rw[Qe,QP hi];rfl
theorem rowZ_eq{p row q:List Int}{col:Nat}{piv last:Int}(hl:q.length=row.length)(h:∀ t,q[t]?.getD 0=if t<row.length then Int.fdiv (row[t]?.getD 0*piv-row[col]?.getD 0*p[t]?.getD 0) last else row[t]?.getD 0):q=Zry p row col piv last:=by
 apply Ql;intro t;unfold Zry;rw[Qe];have:=h t;by_cases ht:t<row.length
 ·rw[QP ht]
  rw[Qb (show t<q.length by omega)]at this ⊢;simp only[QI,Qm]at this ⊢;rw[this,Gx ht]
 exact IK
theorem Zza{row q:List Int}{k:Nat}{x:Int}{f:Nat->Int}(hl:q.length=row.length)(hkl:k<row.length)(hx:x=f k)(h:∀ t,q[t]?.getD 0=if t<k then f t else row[t]?.getD 0) :
    ∀ t,(q.set k x)[t]?.getD 0=if t<k+1 then f t else row[t]?.getD 0:=by
 intro t;rw[QC];by_cases ht:k=t
 ·subst ht
  rw[Gx rfl,Gx Gk,Gx Gk,hx];rfl
 rw[Gw ht,h t];by_cases h1:t<k;rw[Gx h1,Gx Gk];rw[Gw h1,Gw Gk]
theorem Cz{G:Prop}(h:G:=by
 exact⟨cu,_,_,_,_,rfl,st.1 _ _ _ _ _ ex.out⟩):G:=h
theorem Zik(na nb:Bool)(A B:Option Addr)(n c m d:Nat)(a b:Int)(w:World)(ha:Wd w na A n c a)(hb:Wd w nb B m d b)(hs:(a*b).natAbs<pw 4096) :
    Calls Tryz.prog 139 #[.agg #[.bool na,.slice A n c],.agg #[.bool nb,.slice B m d]] w (NumW w (a*b)):=by
 obtain⟨W0,u,f,⟨q0,q1,q2⟩,s0⟩:=Zb2 w 39 #[.bool na,.slice A n c] 39 #[.bool nb,.slice B m d] 39 #[.bool false,.slice none 0 0];have hA:=ha.below f;have hD:=hb.below f;have hC:=Zd (Zjd na nb A B n c m d a b W0 hA hD);clear ha hb hA hD;obtain⟨a0,a1,-⟩:=q0.two;obtain⟨b0,b1,-⟩:=q1.two;replace q2:=Zd q2;replace hs:=Zd hs;clear q0 q1;go_in;go_wp2_with fail;refine hC.out.mono ?_;rintro e w1 ⟨h,n2,A2,k2,c2,code,rfl,hR⟩;have hN:=hR.small hs.out;have o:=Gs f h;have s1:=h.size;have q3:=Ze h q2.out;clear h a0 a1 b0 b1 u hR hC q2;obtain⟨V,hV,y,qv,kW,kB,sV⟩:=Zq 39 #[.bool n2,.slice A2 k2 c2] o o.size;have q4:=kB _ _ _ q3;have ex:=Zd (kW _ _ _ _ _ hN);clear kW kB hN;obtain⟨v0,v1,v2,v3⟩:=qv.two;obtain⟨r0,r1,r2,r3⟩:=q4.two;go_wp2_with fail;obtain⟨X,hX,cu,q5,st⟩:=Zaz n2 A2 k2 c2 y Gk q4;(try rw[hX]);obtain⟨y0,y1,-⟩:=q5.two;refine bodyPost_ret (v:=.agg #[.bool n2,.slice A2 k2 c2]) (by simp[results,Tryz.results139,go_sem,y0,y1]) rfl ?_;exact Cz
theorem lsub_ok(na nb:Bool)(A B:Option Addr)(n c m d:Nat)(a b:Int)(w:World)(ha:Wd w na A n c a)(hb:Wd w nb B m d b)(hs:(a-b).natAbs<pw 4096) :
    Calls Tryz.prog 176 #[.agg #[.bool na,.slice A n c],.agg #[.bool nb,.slice B m d]] w (NumW w (a-b)):=by
 obtain⟨W0,u,f,⟨q0,q1,q2⟩,s0⟩:=Zb2 w 39 #[.bool na,.slice A n c] 39 #[.bool nb,.slice B m d] 39 #[.bool false,.slice none 0 0];have hA:=ha.below f;have hD:=hb.below f;have hC:=Zd (Zus na nb A B n c m d a b W0 hA hD);clear ha hb hA hD;obtain⟨a0,a1,-⟩:=q0.two;obtain⟨b0,b1,-⟩:=q1.two;replace q2:=Zd q2;replace hs:=Zd hs;clear q0 q1;go_in;go_wp2_with fail;refine hC.out.mono ?_;rintro e w1 ⟨h,n2,A2,k2,c2,code,rfl,hR⟩;have hN:=hR.small hs.out;have o:=Gs f h;have s1:=h.size;have q3:=Ze h q2.out;clear h a0 a1 b0 b1 u hR hC q2;obtain⟨V,hV,y,qv,kW,kB,sV⟩:=Zq 39 #[.bool n2,.slice A2 k2 c2] o o.size;have q4:=kB _ _ _ q3;have ex:=Zd (kW _ _ _ _ _ hN);clear kW kB hN;obtain⟨v0,v1,v2,v3⟩:=qv.two;obtain⟨r0,r1,r2,r3⟩:=q4.two;go_wp2_with fail;obtain⟨X,hX,cu,q5,st⟩:=Zaz n2 A2 k2 c2 y Gk q4;(try rw[hX]);obtain⟨y0,y1,-⟩:=q5.two;refine bodyPost_ret (v:=.agg #[.bool n2,.slice A2 k2 c2]) (by simp[results,Tryz.results176,go_sem,y0,y1]) rfl ?_;exact Cz
theorem Zqa(na nb:Bool)(A B:Option Addr)(n c m d:Nat)(a b:Int)(w:World)(ha:Wd w na A n c a)(hb:Wd w nb B m d b)(h0:b≠0) :
    Calls Tryz.prog 173 #[.agg #[.bool na,.slice A n c],.agg #[.bool nb,.slice B m d]] w (NumW w (Int.fdiv a b)):=by
 obtain⟨W0,C,h,⟨q0,q1,q2⟩,s0⟩:=Zb2 w 39 #[.bool na,.slice A n c] 39 #[.bool nb,.slice B m d] 39 #[.bool false,.slice none 0 0];have hA:=ha.below h;have hD:=hb.below h;have hC:=Zd (Zgb na nb A B n c m d a b W0 hA hD h0);clear ha hb hA hD;obtain⟨a0,a1,-⟩:=q0.two;obtain⟨b0,b1,-⟩:=q1.two;replace q2:=Zd q2;replace h0:=Zd h0;clear q0 q1;go_in;go_wp2_with fail;refine hC.out.mono ?_;rintro e w1 ⟨o,n2,A2,k2,c2,n3,A3,k3,c3,rfl,hN,-⟩;have u:=Gs h o;have s1:=o.size;have q3:=Ze o q2.out;clear o a0 a1 b0 b1 C hC q2;obtain⟨V,hV,I,qv,kW,kB,sV⟩:=Zq 39 #[.bool n2,.slice A2 k2 c2] u u.size;have q4:=kB _ _ _ q3;have ex:=kW _ _ _ _ _ hN;clear kW kB hN;obtain⟨V2,f,y,J,kW,kB,O⟩:=Zq 39 #[.bool n3,.slice A3 k3 c3] I Gk;replace q4:=kB _ _ _ q4;replace qv:=kB _ _ _ qv;replace ex:=Zd (kW _ _ _ _ _ ex);clear kW kB;obtain⟨v0,v1,v2,v3⟩:=qv.two;obtain⟨r0,r1,r2,r3⟩:=q4.two;rw[<- hV]at f;rw[<- f]at v0 v1 v2 v3 r0 r1 r2 r3;replace f:=Zd f;clear hV;go_wp2_with fail;(try rw[f.out]);obtain⟨X,hX,cu,q5,st⟩:=Zaz n2 A2 k2 c2 y Gk q4;(try rw[hX]);obtain⟨y0,y1,-⟩:=q5.two;refine bodyPost_ret (v:=.agg #[.bool n2,.slice A2 k2 c2]) (by simp[results,Tryz.results173,go_sem,y0,y1]) rfl ?_;exact Cz
theorem Zxp(neg:Bool)(A:Option Addr)(n c:Nat)(w:World)(hn:n<=1000000000)(b:Bool)(hb:((n:Int) == 0)=b) :
    Calls Tryz.prog 174 #[.agg #[.bool neg,.slice A n c]] w λe w'=>e=.returned (.bool b)/\Below w.heap.size w w':=by
 go_in;go_wp2_with fail;go_ret;exact⟨rfl,by go_grown⟩
