/- The error of a covariance whose elements are valid hangs -/
import Derived.Deep.LoopGhost
import Derived.Test.YthappeninglakaaGreatZt18
set_option maxRecDepth 100000
set_option maxHeartbeats 16000000
set_option linter.unusedSimpArgs false
set_option linter.unusedVariables false
namespace Go.Proofs.YthappeninglakaaGreat
open Go.RowKit
open Act renaming put→Qa
open Below renaming refl→Qb
open List renaming getElem?_eq_getElem→Qc,length_map→Qf,map_congr_left→Qg,getElem?_eq_none→Qh,range→Qm,replicate→Qn,getElem?_map→Qo,map_map→Qp,mem_of_getElem?→Qr,eq_nil_of_length_eq_zero→Qt,all_eq_true→Qw,range_succ→Qy,length_append→QB,mem_singleton→QC,ext_getElem?→QE,getElem?_set→QF,ext_getElem→QG,length_set→QI
open Nat renaming le_refl→Qd,le_trans→Qe,lt_trans→Ql,lt_or_ge→Qs,lt_irrefl→Qv,lt_succ_self→Qx,eq_zero_or_pos→QA,lt_of_lt_of_le→QD
open Blk renaming new→Qi
open Option renaming getD_some→Qj,map_some→Qq
open Kept renaming refl→Qk
open Rat renaming intCast_natCast→Qu,intCast_neg→QH
open Int renaming natAbs_natCast→Qz
open _root_.Array renaming replicate→QJ
theorem Fm{G:Prop}(h:G:=by
 have h1:=h.1.ok;have h2:=h.2.ok;have h3:=h.1.sgEq;rw[Int.natAbs_natCast]at h2;have hd:=r.den_pos;have hr:=r.reduced;unfold Nat.Coprime at hr;refine⟨?_,?_⟩
 ·unfold okF
  rw[h1,h2,h.neg,Zh,Zh];simp[length_digits_pos,hd,hr]
 unfold qOf;rw[h3,Zh];exact Rat.num_divInt_den r):G:=h
theorem Fr.rawC{w:World}{na:Bool}{A:Option Addr}{n c:Nat}{nb:Bool}{B:Option Addr}{m d:Nat}{r:Rat}(h:Fr w na A n c nb B m d r):okF na (digits r.num.natAbs) nb (digits r.den)=true/\qOf na (digits r.num.natAbs) (digits r.den)=r:=by
 exact Fm
def Zqe(q:Rat):Nat:=max (digits q.num.natAbs).length (digits q.den).length
def Zlt(e:FX):Nat × Bool × Rat:=(e.few,e.ok,e.q)
def Zn7(r:RX):Nat × List (Nat × Bool × Rat):=(r.n,r.es.map Zlt)
def Zes(rs:List RX):List (Nat × List (Nat × Bool × Rat)):=rs.map Zn7
def Zir(Q:List (List Rat)):List (Nat × List (Nat × Bool × Rat)):=Q.map λr=>(r.length,r.map λq=>(Zqe q,true,q))
theorem sig_len{rs rt:List RX}(h:Zes rs=Zes rt):rs.length=rt.length:=by
 have:=congrArg List.length h;simpa [Zes]using this
theorem Zvy{rs:List RX}:qM rs=(Zes rs).map λx=>x.2.map λy=>y.2.2:=by
 unfold qM Zes;rw[Qp];refine Qg λr _=>?_;simp[Zn7,Zlt,Function.comp_def]
theorem Zl8{rs:List RX}:long6 rs=(decide (6<(Zes rs).length) || (Zes rs).any λx=>decide (6<x.1)):=by
 unfold long6 Zes;rw[Qf,List.any_map];rfl
theorem sig_row{k:Nat}{r:RX}:Zc9 k r=(decide ((Zn7 r).1=k) && (Zn7 r).2.all λy=>decide (y.1<=64) && y.2.1):=by
 unfold Zc9 Zc0 Zn7;simp only[List.all_map];rfl
theorem Zmq{k:Nat}{rs:List RX}:rs.all (Zc9 k)=(Zes rs).all λx=>decide (x.1=k) && x.2.all λy=>decide (y.1<=64) && y.2.1:=by
 unfold Zes;rw[List.all_map];congr 1
 funext r
 exact sig_row
theorem Zr5{rs rt:List RX}(h:Zes rs=Zes rt):Zbg rs=Zbg rt:=by
 unfold Zbg;rw[Zl8,Zl8 (rs:=rt),Zmq,Zmq (rs:=rt),Zvy,Zvy (rs:=rt),sig_len h,h]
theorem FC{G:Prop}(h:G:=by
 obtain⟨g,o,e1,hc⟩:=h5 hn;refine⟨g,o,e1,λk x hx=>?_⟩;rw[List.getElem?_map]at hx;obtain⟨e,he,rfl⟩:=Option.map_eq_some_iff.1 hx;exact hc k e he):G:=h
theorem FL.fxs{w:World}{A:Option Addr}{n c:Nat}{qs:List Rat}(h:FL w A n c qs):∃ es,FXL w A n c es/\es.map FX.q=qs/\es.map Zlt=qs.map λq=>(Zqe q,true,q):=by
 obtain⟨fs,h1,h2,h3,h4,rfl,h5⟩:=h
 have hk:∀ e ∈ fs,FX.in_ w ⟨e.na,e.A,e.n,e.c,digits e.q.num.natAbs,e.nb,e.B,e.m,e.d,digits e.q.den⟩/\FX.q ⟨e.na,e.A,e.n,e.c,digits e.q.num.natAbs,e.nb,e.B,e.m,e.d,digits e.q.den⟩=e.q/\Zlt ⟨e.na,e.A,e.n,e.c,digits e.q.num.natAbs,e.nb,e.B,e.m,e.d,digits e.q.den⟩=(Zqe e.q,true,e.q):=λe he=>by
  have h0:Fr w e.na e.A e.n e.c e.nb e.B e.m e.d e.q:=h4 e he;have h2:=h0.2.2.2;rw[Qz]at h2;have h6:=h0.rawC;refine⟨⟨h0.1.2.2,h2⟩,h6.2,?_⟩;unfold Zlt FX.few FX.ok FX.q Zqe;rw[h6.1,h6.2];have e1:=h0.1.2.2.len;have e2:=h2.len;rw[e1,e2]
 refine⟨fs.map λe=>⟨e.na,e.A,e.n,e.c,digits e.q.num.natAbs,e.nb,e.B,e.m,e.d,digits e.q.den⟩,⟨by rw[Qf];exact h1,h2,h3,λx hx=>?_,λhn=>?_⟩,?_,?_⟩
 ·obtain⟨e,he,rfl⟩:=List.mem_map.1 hx
  exact(hk e he).1
 exact FC
 ·rw[Qp]
  exact Qg λe he=>(hk e he).2.1
 rw[Qp,Qp];exact Qg λe he=>(hk e he).2.2
theorem IF{G:Prop}(h:G:=by
 obtain⟨k,hk,rfl⟩:=List.getElem_of_mem hr;exact(r2 k _ (List.getElem?_eq_getElem hk)).2.1):G:=h
theorem MFL.mxs{w:World}{A:Option Addr}{n c:Nat}{Q:List (List Rat)}(h:MFL w A n c Q):∃ rs,MXL w A n c rs/\qM rs=Q/\Zes rs=Zir Q:=by
 obtain⟨h1,h2,h3,h4⟩:=h;rcases QA n with h0|h0
 ·subst h0
  obtain rfl:Q=[]:=Qt h1;exact⟨[],⟨rfl,h2,h3,λr hr=>(by cases hr),λhn=>absurd hn (Qv _)⟩,rfl,rfl⟩
 obtain⟨g,o,rfl,hc⟩:=h4 h0
 obtain⟨rs,r1,r2⟩:=Zqj (λi (r:RX)=>w.cell? ⟨g,o+i,none⟩=some (.slice r.A r.n r.c)/\FXL w r.A r.n r.c r.es/\r.es.map FX.q=Q[i]?.getD []/\Zn7 r=((Q[i]?.getD []).length,(Q[i]?.getD []).map λq=>(Zqe q,true,q))) n (λi hi=>by
  have hq:Q[i]?=some Q[i]:=Qc Gk;obtain⟨A',n',c',k0,hF⟩:=hc i _ hq;obtain⟨es,e1,e2,e3⟩:=hF.fxs;refine⟨⟨A',n',c',es⟩,k0,e1,by rw[hq];exact e2,?_⟩;rw[hq,Qj];unfold Zn7;rw[e3,hF.len])
 have ext:∀ {α:Type} (f:RX->α) (g:List Rat->α),(∀ (i:Nat) (r:RX),rs[i]?=some r->f r=g (Q[i]?.getD []))->rs.map f=Q.map g:=λf g hfg=>by
  apply QE;intro i;rw[Qo,Qo];by_cases hi:i<n
  ·have hr:=Qc (l:=rs) (i:=i) Gk
   have hq:Q[i]?=some Q[i]:=Qc Gk;have:=hfg i _ hr;rw[hq,Qj]at this;rw[hr,hq,Qq,Qq,this]
  rw[Qh (l:=rs) Gk,Qh (l:=Q) Gk];rfl
 refine⟨rs,⟨r1,h2,h3,λr hr=>?_,λ_=>⟨g,o,rfl,λk r hk=>(r2 k r hk).1⟩⟩,?_,ext Zn7 (λr=>(r.length,r.map λq=>(Zqe q,true,q))) (λi r hr=>(r2 i r hr).2.2.2)⟩;exact IF;have:=ext (λr=>r.es.map FX.q) id (λi r hr=>(r2 i r hr).2.2.1);rw[List.map_id]at this;exact this
section
variable{Q:Nat->Nat->Rat}{n:Nat}{a b:List Int}{i k:Nat}
end
section
variable{R:List (List Rat)}{n:Nat}{a b:List Int}
theorem Zw0{D B:Nat}{q:Rat}(hD:0<D)(h:BndQ B ((D:Nat)*q)):q.num.natAbs<=B/\q.den<=D:=by
 have f:((D:Nat):Rat)≠0:=λe=>by
  have:D=0:=by exact_mod_cast e
  omega
 exact Zex h ⟨(D:Int),by rw[Qu],by simp⟩ f
end
theorem inv_CD{B n:Nat}{Q X:Nat->Nat->Rat}(hQ:∀ a b,a<n->b<n->BndQ B (Q a b))(hB:1<=B)(hE:∀ c i,c<n->i<n->Zu n (λj=>Q i j*X j c)=if i=c then 1 else 0)(h0:Zap n Q≠0) :
    ∃ D,0<D/\D<=Zbp B n/\∀ c k,c<n->k<n->CD D (Zbp B n) (X k c):=by
 obtain⟨d,hd,y⟩:=Zhk hQ;have u:d≠0:=λe=>h0 (by rw[hd,e];rfl);refine⟨d.natAbs,by omega,y,λc k hc hk=>?_⟩;have f:=Z0y Q (λj=>X j c) (λi=>if i=c then 1 else 0) (λi hi=>hE c i hc hi) hk
 obtain⟨z,hz,o⟩:=Zhk (B:=B) (n:=n) (M:=λa b=>if b=k then (if a=c then 1 else 0)else Q a b) (λa b ha hb=>by
  show BndQ B (if b=k then (if a=c then 1 else 0)else Q a b);by_cases h:b=k
  ·rw[Gx h]
   by_cases h2:a=c;rw[Gx h2];exact⟨1,rfl,by simpa using hB⟩;rw[Gw h2];exact⟨0,rfl,by simp⟩
  rw[Gw h];exact hQ a b ha hb)
 rw[hz,hd]at f;have C:(d:Rat)≠0:=λe=>u (by exact_mod_cast e);rcases Int.natAbs_eq d with h|h
 ·refine⟨z,?_,o⟩
  have h1:((d.natAbs:Nat):Rat)=(d:Rat):=by rw[<- Qu,<- h]
  rw[h1,<- f]
  grind
 refine⟨-z,?_,by rw[Int.natAbs_neg];exact o⟩
 have h1:((d.natAbs:Nat):Rat)=-(d:Rat):=by
  rw[<- Qu,show ((d.natAbs:Nat):Int)=-d by omega,QH]
 rw[h1,QH,<- f]
 grind
def Zbu:Rat:=((1000000000000000000:Int):Rat)
def ofQ(X:Nat->Nat->Rat)(m:Nat):List (List Rat):=(Qm m).map λi=>(Qm m).map λc=>X i (m+c)*Zbu
section
variable{rs:List RI}{rr ws:List Int}{n m:Nat}
theorem Zff{i:Nat}(hi:i<m):((Zc7 rs ws n m)[i]?.getD []).length=m:=by rw[Z1r hi,Zt0]
theorem Fe{G:Prop}(h:G:=by
 rw[List.getElem?_map,List.getElem?_range hi,Option.map_some,Option.getD_some,List.getElem?_map,List.getElem?_range hj];rfl):G:=h
theorem Zin{i j:Nat}(hi:i<m)(hj:j<m):Zi (Zc7 rs ws n m) i j=Za8 rs ws n i j:=by
 unfold Zi Zc7;exact Fe
theorem Zf9(hn:n<=200)(hE:Zcx rs rr ws=0)(i j:Nat):BndQ (pw 4) (Za8 rs ws n i j):=by
 obtain⟨b1,b2,b3⟩:=sys_b40 hE;exact⟨_,rfl,Z0t hn λr _=>⟨b3 r,b1 r i,b1 r j⟩⟩
theorem Zy8(hn:n<=200)(hE:Zcx rs rr ws=0)(i j:Nat):BndQ (pw 4) (Zi (Zbe (Zc7 rs ws n m) m m 0) i j):=by
 have h0:BndQ (pw 4) (0:Rat):=BndQ.zero;have h1:BndQ (pw 4) (1:Rat):=⟨1,rfl,Zb4 4⟩;rw[Zgw (λi hi=>Zff hi) (Zj0 _ _ _ _)];by_cases hi:i<m
 ·rw[Gx hi]
  by_cases hj:j<m;rw[Gx hj,Zin hi hj];exact Zf9 hn hE i j;rw[Gw hj]
  split
  ·split
   exact h1;exact h0
  exact h0
 rw[Gw hi];exact h0
def OfP(rs:List RI)(ws:List Int)(n m:Nat)(X:Nat->Nat->Rat):Prop:=
 (∀ c i,c<m->i<m->Zu m (λj=>Za8 rs ws n i j*X j (m+c))=if i=c then 1 else 0)/\∃ D,0<D/\D<=pw (5*m)/\∀ c k,c<m->k<m->CD D (pw (5*m)) (X k (m+c))
theorem Zv2(hn:n<=200)(hm:m<=12)(hE:Zcx rs rr ws=0) :
    okZ (pw 200) (m+m) m 0 0 (Z6 (Zbe (Zc7 rs ws n m) m m 0)) 1/\okR (pw 200) (pw 200) (m+m) m 0 0 (Zbe (Zc7 rs ws n m) m m 0)/\Zrz (Zbe (Zc7 rs ws n m) m m 0) m (m+m) /\
    (Zam m 0 0 (Z6 (Zbe (Zc7 rs ws n m) m m 0)) false 1).2.1=(Zbf m 0 0 (Zbe (Zc7 rs ws n m) m m 0) false).2.1/\(Zbf m 0 0 (Zbe (Zc7 rs ws n m) m m 0) false).2.1<=m /\
    ((Zbf m 0 0 (Zbe (Zc7 rs ws n m) m m 0) false).2.1<m->Zap m (Za8 rs ws n)=0) /\
    ((Zbf m 0 0 (Zbe (Zc7 rs ws n m) m m 0) false).2.1=m->Zap m (Za8 rs ws n)≠0/\∃ X:Nat->Nat->Rat,Zg9 (Zi (Zbf m 0 0 (Zbe (Zc7 rs ws n m) m m 0) false).1) X m (m+m)/\Zg9 (λi j=>(Zaf (Zam m 0 0 (Z6 (Zbe (Zc7 rs ws n m) m m 0)) false 1).1 i j:Rat)) X m (m+m)/\OfP rs ws n m X):=by
 have f:∀ i,i<m->((Zbe (Zc7 rs ws n m) m m 0)[i]?.getD []).length=m+m:=λi hi=>by
  rw[Zkz hi,Gx hi,QB,Zff hi];simp[Zfz]
 obtain⟨o1,o2,o3,o4,o5,o6,o7⟩:=Zqs (b:=4) (n:=m) (m:=m+m) (R:=Zbe (Zc7 rs ws n m) m m 0) (λi j=>Zy8 hn hE i j) (Zpi _ _ _ _) Gk f Gk Gk Gk
 have e:Zap m (Zi (Zbe (Zc7 rs ws n m) m m 0))=Zap m (Za8 rs ws n):=Za4 λi j hi hj=>by
  rw[Zgw (λi hi=>Zff hi) (Zj0 _ _ _ _),Gx hi,Gx hj,Zin hi hj]
 rw[e]at o6 o7;refine⟨o1,o2,o3,o4,o5,o6,λhr=>?_⟩;obtain⟨x1,X,x2,x3,x4⟩:=o7 hr
 have hS:∀ c i,c<m->i<m->Zu m (λj=>Za8 rs ws n i j*X j (m+c))=if i=c then 1 else 0:=λc i hc hi=>by
  have h6:=x4 i (m+c) hi Gk Gk;rw[Zgw (λi hi=>Zff hi) (Zj0 _ _ _ _),Gx hi,Gw Gk,Nat.add_sub_cancel_left,Gx hc]at h6;rw[<- h6];exact Zy λj hj=>by rw[Zgw (λi hi=>Zff hi) (Zj0 _ _ _ _),Gx hi,Gx hj,Zin hi hj]
 obtain⟨D,d1,d2,d3⟩:=inv_CD (B:=pw 4) (n:=m) (Q:=Za8 rs ws n) (X:=λj c=>X j (m+c)) (λa b _ _=>Zf9 hn hE a b) (Zb4 4) hS x1;have h:=Zkd (b:=4) m Gk;exact⟨x1,X,x2,x3,hS,D,d1,Qe d2 h,λc k hc hk=>(d3 c k hc hk).mono h⟩
end
attribute [local go_sem] Zg
theorem Zx1(A:Option Addr)(n c:Nat)(w:World)(hn:n<=maxLen) :
    Calls Tryz.prog 42 #[.slice A n c] w λe w'=>e=.returned (.bool (decide (6<n)))/\Below w.heap.size w w':=by
 exact By
def RI.long6(r:RI):Bool:=decide (6<r.n)
theorem Zys(A:Option Addr)(n c:Nat)(rs:List RI)(w:World)(h:MIL w A n c rs)(b:Bool)(hb:rs.any RI.long6=b) :
    Calls Tryz.prog 79 #[.slice A n c,.func (.func 42) #[] #[]] w (IdxB w b):=by
 have hl:=h.1;have u:=h.2.1;have f:=h.2.2.1;unfold maxLen at f;replace hl:=Za hl;replace hb:=Za hb;replace h:=Za h;go_in;go_wp2_with fail
 go_loopw [8] (λiv wr=>∃ i:Nat,i<=n/\iv=.int .i64 i/\Hid (∀ j e,j<i->rs[j]?=some e->e.long6=false)/\Below w.heap.size w wr) (λiv _=>n-(intOf iv).toNat)
 case atStart=>exact⟨0,Nat.zero_le _,rfl,Za (λj e hj=>by omega),Qb _ _⟩
 case round =>
  obtain⟨i,y,rfl,au,ah⟩:=hrel;by_cases hin:i<n
  case neg =>
   exact Eo
  have fg:decide ((i:Int)<(n:Int))=true:=Gv Gk;obtain⟨g,o,r,rfl,he,c0,hL⟩:=(h.out.below ah).at_ hin;have hC:=Za (λW1=>Zx1 r.A r.n r.c W1 hL.nlen);clear hL;by_cases hx:6<r.n
  ·obtain rfl:b=true:=by
     rw[<- hb.out,List.any_eq_true];exact⟨r,Qr he,by unfold RI.long6;simpa using hx⟩
   exact Ca
  have az:Hid (∀ j e,j<i+1->rs[j]?=some e->e.long6=false):=Za (λj e' hj he'=>by
    rcases Qs j i with h'|h';exact au.out j e' h' he';obtain rfl:j=i:=Gk;rw[he]at he';cases he';unfold RI.long6;simpa using hx)
  exact Cb
theorem Zvh(A:Option Addr)(n c:Nat)(rs:List RI)(w:World)(h:MIL w A n c rs)(b:Bool)(hb:rs.any RI.long6=b) :
    Calls Tryz.prog 41 #[.slice A n c,.func (.func 42) #[] #[]] w λe w'=>e=.returned (.bool b)/\Below w.heap.size w w':=by
 go_in;go_wp2_with fail;refine(Zys A n c rs w h b hb).mono ?_;exact EY
def ofE(rs:List RI)(ws:List Int):Int:=if rs.any RI.long6=true then 4 else if Zcx rs (Qn (min rs.length 200) 0) ws≠0 then Zcx rs (Qn (min rs.length 200) 0) ws else if Zap (n0I rs) (Za8 rs ws rs.length)=0 then 22 else 0
section
variable{rs:List RI}{ws:List Int}{E:Int}
theorem Zr1(h:rs.any RI.long6=true):ofE rs ws=4:=by unfold ofE;rw[Gx h]
theorem Zwe(h:rs.any RI.long6=false)(hE:Zcx rs (Qn (min rs.length 200) 0) ws=E)(h0:E≠0):ofE rs ws=E:=by
 unfold ofE;rw[Gw (by rw[h];decide),hE,Gx h0]
theorem Zqa(h:rs.any RI.long6=false)(hE:Zcx rs (Qn (min rs.length 200) 0) ws=0)(hd:Zap (n0I rs) (Za8 rs ws rs.length)=0):ofE rs ws=22:=by
 unfold ofE;rw[Gw (by rw[h];decide),hE,Gw Gh,Gx hd]
theorem Zu4(h:rs.any RI.long6=false)(hE:Zcx rs (Qn (min rs.length 200) 0) ws=0)(hd:Zap (n0I rs) (Za8 rs ws rs.length)≠0):ofE rs ws=0:=by
 unfold ofE;rw[Gw (by rw[h];decide),hE,Gw Gh,Gw hd]
end
def OfPost(rs:List RI)(ws:List Int)(X:Nat->Nat->Rat)(w:World)(e:Ending)(w':World):Prop:=
 Below w.heap.size w w'/\((ofE rs ws=0/\∃ rt,Zes rt=Zir (ofQ X (n0I rs))/\((Zbg rt=0/\∃ A c,e=.returned (.tuple #[.slice A (n0I rs) c,.int .i64 0])/\MFL w' A (n0I rs) c (ofQ X (n0I rs))) \/ (Zbg rt≠0/\e=.returned (.tuple #[.slice none 0 0,.int .i64 16])))) \/
  (ofE rs ws≠0/\e=.returned (.tuple #[.slice none 0 0,.int .i64 (ofE rs ws)])))
theorem OfPost.fall{rs:List RI}{ws:List Int}{X:Nat->Nat->Rat}{w w':World}{E:Int}(hb:Below w.heap.size w w')(h:ofE rs ws=E)(h0:E≠0):OfPost rs ws X w (.returned (.tuple #[.slice none 0 0,.int .i64 E])) w':=by
 subst h;exact⟨hb,.inr ⟨h0,rfl⟩⟩
def ScT(L L2:List RF)(m i k:Nat)(S:Rat):Prop:=
 L2.length=m/\L2.map RF.g=L.map RF.g/\(∀ (j:Nat) (r:RF),L2[j]?=some r->r.q.length=m)/\∀ j c,j<m->c<m->Zi (L2.map RF.q) j c=if j<i \/ (j=i/\c<k)then Zi (L.map RF.q) j c*S else Zi (L.map RF.q) j c
section
variable{L L2:List RF}{m i k:Nat}{S:Rat}
theorem ScT.start(hl:L.length=m)(hr:∀ (j:Nat) (r:RF),L[j]?=some r->r.q.length=m):ScT L L m 0 0 S:=
 ⟨hl,rfl,hr,λj c _ _=>by rw[Gw Gk]⟩
theorem ScT.step(h:ScT L L2 m i k S){r:RF}(hr:L2[i]?=some r)(hi:i<m)(hk:k<m){x:Rat}(hx:x=Zi (L.map RF.q) i k*S):ScT L (L2.set i ⟨r.g,r.c,r.q.set k x⟩) m i (k+1) S:=by
 obtain⟨h1,h2,h3,h4⟩:=h;have e:i<L2.length:=Gk;have o:=h3 i r hr;refine⟨by rw[QI];exact h1,?_,λj s hs=>?_,λj c hj hc=>?_⟩;rw[Zew (f:=RF.g) (s:=⟨r.g,r.c,r.q.set k x⟩) hr rfl];exact h2
 ·rw[QF]at hs
  by_cases hij:i=j
  ·subst hij
   rw[Gx rfl,Gx e]at hs;cases hs;rw[QI];exact o
  rw[Gw hij]at hs;exact h3 j s hs
 rw[Zkj,Zst e];have h5:=h4 j c hj hc;rw[Zkj]at h5;by_cases hji:j=i
 ·subst hji
  rw[Gx rfl];rw[Zgi hr]at h5;show (r.q.set k x)[c]?.getD 0=_;rw[QF];by_cases hkc:k=c
  ·subst hkc
   rw[Gx rfl,Gx Gk,Gx Gk,Qj];exact hx
  rw[Gw hkc,h5];by_cases hck:c<k;rw[Gx Gk,Gx Gk];rw[Gw Gk,Gw Gk]
 rw[Gw hji,h5];by_cases hj2:j<i;rw[Gx Gk,Gx Gk];rw[Gw Gk,Gw Gk]
theorem ScT.next(h:ScT L L2 m i m S):ScT L L2 m (i+1) 0 S:=by
 obtain⟨h1,h2,h3,h4⟩:=h;refine⟨h1,h2,h3,λj c hj hc=>?_⟩;rw[h4 j c hj hc];by_cases hj2:j<i+1;rw[Gx Gk,Gx Gk];rw[Gw Gk,Gw Gk]
theorem ScT.done(h:ScT L L2 m m 0 S):L2.map RF.q=(Qm m).map λj=>(Qm m).map λc=>Zi (L.map RF.q) j c*S:=by
 obtain⟨h1,h2,h3,h4⟩:=h;refine QG (by simp[h1]) λj hj1 hj2=>?_;rw[Qf,h1]at hj1;have hs:L2[j]?=some L2[j]:=Qc Gk;have hq:=h3 j _ hs;refine QG (by simp[hq]) λc hc1 hc2=>?_;have hc:c<m:=by simpa [hq]using hc1
 have h5:=h4 j c hj1 hc;rw[Gx Gk]at h5
 have h6:Zi (L2.map RF.q) j c=(L2[j].q)[c]'(by omega):=by
  unfold Zi;rw[Qo,hs,Qq,Qj,Qc Gk,Qj]
 rw[h6]at h5;simp[h5]
end
def InvZB(Q:List (List Rat))(n:Nat)(X:Nat->Nat->Rat)(w:World)(e:Ending)(w':World):Prop:=
 ((Zam n 0 0 (Z6 (Zbe Q n n 0)) false 1).2.1<n/\e=.returned (.tuple #[.slice none 0 0,.int .i64 18])/\Below w.heap.size w w') \/
 ((Zam n 0 0 (Z6 (Zbe Q n n 0)) false 1).2.1=n/\∃ gO L,e=.returned (.tuple #[.slice (some ⟨gO,0,none⟩) n n,.int .i64 0])/\Below w.heap.size w w'/\MatB 35 41 w' gO L/\L.map RF.q=Zju X n (n+n)/\w.heap.size<=gO/\∀ r ∈ L,w.heap.size<=r.g)
theorem Zoc(A:Option Addr)(n c:Nat)(rs:List RX)(w:World)(h:MXL w A n c rs)(hs:sqE rs=0)(hn9:n<=12)(V:okZ (pw 200) (n+n) n 0 0 (Z6 (Zbe (qM rs) n n 0)) 1)(hfin:Zrz (Zbe (qM rs) n n 0) n (n+n))(a0:(Zam n 0 0 (Z6 (Zbe (qM rs) n n 0)) false 1).2.1<=n)
    (X:Nat->Nat->Rat) (hX:(Zam n 0 0 (Z6 (Zbe (qM rs) n n 0)) false 1).2.1=n->Zg9 (λi j=>(Zaf (Zam n 0 0 (Z6 (Zbe (qM rs) n n 0)) false 1).1 i j:Rat)) X n (n+n)) :
    Calls Tryz.prog 43 #[.slice A n c] w (InvZB (qM rs) n X w):=by
 have hmx:=Gt;have c1:(35:TypeId)≠41:=Gj;obtain⟨a1,b9⟩:=Zx9 hs;obtain⟨f1,f2,f3,f4,f5⟩:=Zja a1;have hl:=h.1;have b8:(qM rs).length=n:=Z1p h;have T:=qM_row h a1;rw[show n0R rs=n by omega]at T;have O:=h.good a1;obtain⟨W0,b6,o,q0,s0⟩:=Zak w 25 #[.slice A n c];have k0:=q0.cell 0;simp at k0;obtain⟨Q,hQ⟩:=Gz (qM rs);rw[hQ]at b8 T O V hfin a0;rw[hQ]at hX;replace hX:=Za hX;unfold InvZB;rw[hQ];have c0:1<=n:=Gk;replace h:=Za (h.below o);replace hs:=Za hs;replace O:=Za (O.below o);replace T:=Za T;replace V:=Za V;replace a0:=Za a0;replace hfin:=Za hfin;clear f3 f4 f5 a1 b9;go_in;go_wp2_with fail;(try rw[b6]);go_wp2_with fail;refine(Zsi A n c rs W0 h.out 0 hs.out).mono ?_;rintro e w1 ⟨rfl,C⟩;have q1:=Zc C q0;replace O:=Za (O.out.below C);clear k0;go_wp2_with fail;obtain⟨X0,a3⟩:=Gz w1.drew;have u:Below w1.heap.size w1 X0:=by rw[<- a3];exact Zf (Qb _ _) 1
 have f:Hid (∀ wx,Below w1.heap.size w1 wx->wx.cell? ⟨w.heap.size,0,none⟩=some (.slice A n c)):=Za (λwx hbx=>by
  have h1:=(q1.below hbx q1.lt).cell 0;simpa using h1)
 refine wp_heldS [] hmx f (by rw[a3];exact u) (λhxs=>?_);rw[a3];refine Zj5 4 [0,1,3,4] rfl Gi (f.out _ u) ?_
 iterate 4 (refine tkA ?_;try simp only[Qa,Zg7,Zgl,Zg1,Gr,Gq,Gp])
 refine tk0 ?_;refine wpAnyL_o 2 λK hK=>?_;go_simp;refine(Zw4 81 (.pointer (some ⟨w.heap.size,0,none⟩)) A n c n n Q (λi=>Zfz n i) X0 (O.out.below u) Gk T.out Gk Gk Gk Gk (λi hi=>Zic _ _) (λx W=>Zmz _ _ _) (λW i hbW hi=>Zta w.heap.size A n c i W (((q1.below u q1.lt)).below hbW (q1.below u q1.lt).lt) Gk hi)).mono ?_;rintro e w3 ⟨go,L,rfl,b4,-,a7,a9,b3⟩
 have U:L.map RF.q=Zbe Q n n 0:=by
  rw[b3];unfold Zbe;refine Qg λj hj=>?_;rw[Gx (List.mem_range.1 hj)]
 have Y:=a9.mfl a7 (Qd n) (by unfold maxLen;omega);rw[U]at Y;have y:=Gs u b4
 have a2:∀ j,j<n->((Zbe Q n n 0)[j]?.getD []).length=n+n:=λj hj=>by
  rw[Zkz hj,Gx hj,QB,T.out j hj,Zic]
 replace Y:=Za Y;replace a2:=Za a2;refine hK.out _ _ (λ_=>f.out _ y) ?_;clear hK K a9 U b3 b4 a7
 try simp only[Qa,Zg7,Zgl,Zg1]
 by_cases J:(Zam n 0 0 (Z6 (Zbe Q n n 0)) false 1).2.1<n
 ·skip
  replace J:=Za J;refine wpAnyL_o 5 λK hK=>?_;go_simp;refine(Z0h (some ⟨go,0,none⟩) n n (n+n) (Zbe Q n n 0) w3 Y.out Gk Gk Gk Gk a2.out V.out hfin.out J.out).mono ?_;rintro e w5 ⟨rfl,a4⟩;have I:=Gs y a4;refine hK.out _ _ (λ_=>f.out _ I) ?_;clear hK K
  try simp only[Qa,Zg7,Zgl,Zg1]
  refine Zgm 5 [6,7,8,9,10] rfl Gi (f.out _ I) ?_
  iterate 5 (refine tkA ?_;try simp only[Qa,Zg7,Zgl,Zg1,Gr,Gq,Gp])
  refine tk0 ?_;refine wpAnyL_fin ?_;have a5:Below w.heap.size w w5:=o.trans (C.mono o.size |>.trans (I.mono (Qe o.size C.size)));clear hxs f u y;go_wp2_with fail;go_returns;exact .inl ⟨J.out,rfl,a5⟩
 skip
 have a6:Hid ((Zam n 0 0 (Z6 (Zbe Q n n 0)) false 1).2.1=n):=Za (Nat.le_antisymm a0.out (Nat.not_lt.1 J));clear J;refine wpAnyL_o 5 λK hK=>?_;go_simp;refine(Zzt (some ⟨go,0,none⟩) n n (n+n) (Zbe Q n n 0) w3 Y.out Gk Gk Gk Gk a2.out V.out hfin.out a6.out X (hX.out a6.out)).mono ?_;rintro e w5 ⟨gO,L5,rfl,a4,b7,b2,b0,a8⟩;have I:=Gs y a4;have b1:Hid (w.heap.size<=gO/\∀ r ∈ L5,w.heap.size<=r.g):=Za ⟨Qe (Qe o.size (Qe C.size y.size)) b7,λr hr=>Qe (Qe o.size (Qe C.size y.size)) (a8 r hr)⟩;have b5:=Za (show MatB 35 41 w5 gO L5 from b2);refine hK.out _ _ (λ_=>f.out _ I) ?_;clear hK K
 try simp only[Qa,Zg7,Zgl,Zg1]
 refine Zgm 5 [6,7,8,9,10] rfl Gi (f.out _ I) ?_
 iterate 5 (refine tkA ?_;try simp only[Qa,Zg7,Zgl,Zg1,Gr,Gq,Gp])
 refine tk0 ?_;refine wpAnyL_fin ?_;have a5:Below w.heap.size w w5:=o.trans (C.mono o.size |>.trans (I.mono (Qe o.size C.size)));clear hxs f u y b2;go_wp2_with fail;go_returns;exact .inr ⟨a6.out,gO,L5,rfl,a5,b5.out,b0,b1.out.1,b1.out.2⟩
open Go.ChangeShapes Go.WideShapes Go.Deep Go.RowKit
section
variable{H:Type}{enc:TypeId × Value->H}{w:World}{base:Nat}{spare:Nat->Bool}{held:Bool}
end
section
variable{H:Type}{enc:TypeId × Value->H}{w:World}{base:Nat}{spare:Nat->Bool}{held:Bool}
end
theorem Fr.raw{w:World}{na:Bool}{A:Option Addr}{n c:Nat}{nb:Bool}{B:Option Addr}{m d:Nat}{r:Rat}(h:Fr w na A n c nb B m d r):okF na (digits r.num.natAbs) nb (digits r.den)=true/\qOf na (digits r.num.natAbs) (digits r.den)=r:=by
 exact Fm
def FE.fx(e:FE):FX:=⟨e.na,e.A,e.n,e.c,digits e.q.num.natAbs,e.nb,e.B,e.m,e.d,digits e.q.den⟩
def Sm8(q:Rat):Prop:=q.num.natAbs<pw 8/\q.den<pw 8
theorem FE.fx_ok{w:World}{e:FE}(h:e.in_ w)(hs:Sm8 e.q):e.fx.in_ w/\e.fx.fine=true/\e.fx.q=e.q:=by
 have h0:Fr w e.na e.A e.n e.c e.nb e.B e.m e.d e.q:=h;have h1:=h0.1.2.2;have h2:=h0.2.2.2;rw[Qz]at h2;refine⟨⟨h1,h2⟩,?_,h0.raw.2⟩;unfold FX.fine;rw[Bool.and_eq_true];refine⟨Gv ?_,h0.raw.1⟩;have a1:=(Zt _ 8).2 hs.1;have a2:=(Zt _ 8).2 hs.2;have b1:=h1.len;have b2:=h2.len;unfold FX.few FE.fx;simp only;omega
theorem FL.fxl{w:World}{A:Option Addr}{n c:Nat}{qs:List Rat}(h:FL w A n c qs)(hs:∀ q ∈ qs,Sm8 q):∃ es,FXL w A n c es/\es.map FX.q=qs/\Zet es=true:=by
 obtain⟨fs,h1,h2,h3,h4,rfl,h5⟩:=h;have hk:∀ e ∈ fs,e.fx.in_ w/\e.fx.fine=true/\e.fx.q=e.q:=λe he=>FE.fx_ok (h4 e he) (hs _ (List.mem_map_of_mem he));refine⟨fs.map FE.fx,⟨by rw[Qf];exact h1,h2,h3,λx hx=>?_,λhn=>?_⟩,?_,?_⟩
 ·obtain⟨e,he,rfl⟩:=List.mem_map.1 hx
  exact(hk e he).1
 exact FC
 ·rw[Qp]
  exact Qg λe he=>(hk e he).2.2
 unfold Zet;rw[Qw];intro x hx;obtain⟨e,he,rfl⟩:=List.mem_map.1 hx;exact(hk e he).2.1
theorem MFL.mxl{w:World}{A:Option Addr}{n c:Nat}{Q:List (List Rat)}(h:MFL w A n c Q)(hs:∀ r ∈ Q,∀ q ∈ r,Sm8 q):∃ rs,MXL w A n c rs/\qM rs=Q/\∀ (i:Nat) (r:RX),rs[i]?=some r->r.n=(Q[i]?.getD []).length/\Zet r.es=true:=by
 obtain⟨h1,h2,h3,h4⟩:=h;rcases QA n with h0|h0
 ·subst h0
  obtain rfl:Q=[]:=Qt h1;exact⟨[],⟨rfl,h2,h3,λr hr=>(by cases hr),λhn=>absurd hn (Qv _)⟩,rfl,λi r hr=>(by simp at hr)⟩
 obtain⟨g,o,rfl,hc⟩:=h4 h0
 obtain⟨rs,r1,r2⟩:=Zqj (λi (r:RX)=>w.cell? ⟨g,o+i,none⟩=some (.slice r.A r.n r.c)/\FXL w r.A r.n r.c r.es/\r.es.map FX.q=Q[i]?.getD []/\Zet r.es=true/\r.n=(Q[i]?.getD []).length) n (λi hi=>by
  have hq:Q[i]?=some Q[i]:=Qc Gk;obtain⟨A',n',c',k0,hF⟩:=hc i _ hq;obtain⟨es,e1,e2,e3⟩:=hF.fxl (hs _ (List.getElem_mem _));exact⟨⟨A',n',c',es⟩,k0,e1,by rw[hq];exact e2,e3,by rw[hq];exact hF.len.symm⟩)
 refine⟨rs,⟨r1,h2,h3,λr hr=>?_,λ_=>⟨g,o,rfl,λk r hk=>(r2 k r hk).1⟩⟩,?_,λi r hr=>⟨(r2 i r hr).2.2.2.2,(r2 i r hr).2.2.2.1⟩⟩;exact IF;unfold qM;apply QE;intro i;rw[Qo];by_cases hi:i<n
 ·have hr:=Qc (l:=rs) (i:=i) Gk
  have hq:Q[i]?=some Q[i]:=Qc Gk;have:=(r2 i _ hr).2.2.1;rw[hq]at this;rw[hr,hq,Qq];exact congrArg some this
 rw[Qh Gk,Qh (l:=Q) Gk];rfl
theorem Zz5{w:World}{A:Option Addr}{n c m:Nat}{rs:List RX}(h:MXL w A n c rs)(hn:0<n)(hn12:n<=12)(hm:0<m)(hm12:m<=12)(hr:∀ r ∈ rs,r.n=m/\Zet r.es=true):Zgz rs=0/\n0R rs=m:=by
 obtain⟨r0,f⟩:∃ r,rs[0]?=some r:=⟨_,Qc (by rw[h.1];exact hn)⟩
 have h0:n0R rs=m:=by
  unfold n0R;rw[f];exact(hr r0 (Qr f)).1
 refine⟨?_,h0⟩;unfold Zgz
 have h1:Zhw rs=false:=by
  unfold Zhw;rw[Bool.or_eq_false_iff];refine⟨Gu (by have:=h.1;omega),List.any_eq_false.2 λr e=>?_⟩;have:=(hr r e).1;simp[RX.long,this];omega
 rw[Gw (by simp[h1]),Gw Gk,Gx ?_];rw[Qw];intro r e;obtain⟨a1,a2⟩:=hr r e;unfold Zhc;simp[a1,a2,h0]
def NumE(w:World)(z:Int)(e:Ending)(w':World):Prop:=
 Below w.heap.size w w'/\∃ neg A n c,e=.returned (.tuple #[.agg #[.bool neg,.slice A n c],.int .i64 0])/\Wd w' neg A n c z
def frP(q:Rat)(v:Value)(w:World):Prop:=∃ na A n c nb B m d,v=.tuple #[.agg #[.bool na,.slice A n c,.bool nb,.slice B m d],.int .i64 0]/\Fr w na A n c nb B m d q
def frV(q:Rat)(v:Value)(w:World):Prop:=∃ na A n c nb B m d,v=.agg #[.bool na,.slice A n c,.bool nb,.slice B m d]/\Fr w na A n c nb B m d q
def nmT(z:Int)(v:Value)(w:World):Prop:=∃ A n c,v=.agg #[.bool false,.slice A n c]/\Wd w false A n c z
def isV(x v:Value)(_:World):Prop:=v=x
def newV(B0:Nat)(t:TypeId)(cs:Array Value)(v:Value)(w:World):Prop:=∃ g,v=.pointer (some ⟨g,0,none⟩)/\B0<=g/\Blk w g t cs
def fl1V(q:Rat)(v:Value)(w:World):Prop:=∃ A c,v=.slice A 1 c/\FL w A 1 c [q]
def fl2V(p q:Rat)(v:Value)(w:World):Prop:=∃ A c,v=.slice A 2 c/\FL w A 2 c [p,q]
def Zaz:List (Nat × (Value->World->Prop))->Nat->Value->World->Prop
 | [],_=>λ_ _=>True
 | (j,P)::l,i=>if i=j then P else Zaz l i
def Zeh(P:Value->World->Prop):Prop:=∀ v w w',Below w.heap.size w w'->P v w->P v w'
section
variable{q:Rat}{z:Int}{x:Value}{B0:Nat}{t:TypeId}{cs:Array Value}
theorem Zov:Zeh (frP q):=λ_ _ _ hb ⟨na,A,n,c,nb,B,m,d,e,h⟩=>⟨na,A,n,c,nb,B,m,d,e,h.below hb⟩
theorem Zc6:Zeh (frV q):=λ_ _ _ hb ⟨na,A,n,c,nb,B,m,d,e,h⟩=>⟨na,A,n,c,nb,B,m,d,e,h.below hb⟩
theorem Zx8:Zeh (nmT z):=λ_ _ _ hb ⟨A,n,c,e,h⟩=>⟨A,n,c,e,h.below hb⟩
theorem Zxt:Zeh (isV x):=λ_ _ _ _ h=>h
theorem Ze8:Zeh (newV B0 t cs):=λ_ _ _ hb ⟨g,e,k,h⟩=>⟨g,e,k,Zc hb h⟩
theorem Zgp:Zeh (fl1V q):=λ_ _ _ hb ⟨A,c,e,h⟩=>⟨A,c,e,h.below hb⟩
theorem Zno{p:Rat}:Zeh (fl2V p q):=λ_ _ _ hb ⟨A,c,e,h⟩=>⟨A,c,e,h.below hb⟩
theorem Zfh{l:List (Nat × (Value->World->Prop))}(h:∀ p ∈ l,Zeh p.2)(i:Nat):Zeh (Zaz l i):=by
 induction l with
 | nil=>exact λ_ _ _ _ _=>trivial
 | cons p l ih =>
  unfold Zaz;by_cases e:i=p.1;rw[Gx e];exact h p List.mem_cons_self;rw[Gw e];exact ih λr hr=>h r (List.mem_cons_of_mem _ hr)
theorem Zgf:∀ p ∈ ([]:List (Nat × (Value->World->Prop))),Zeh p.2:=λ_ h=>by cases h
theorem Zac{p:Nat × (Value->World->Prop)}{l:List (Nat × (Value->World->Prop))}(h:Zeh p.2)(k:∀ p ∈ l,Zeh p.2):∀ r ∈ p::l,Zeh r.2:=λr hr=>by
 rcases List.mem_cons.1 hr with rfl|h2;exact h;exact k r h2
end
theorem Zav{t:TypeId}{w:World}{g:Nat}{a0:Bool}{A0:Option Addr}{n0 c0:Nat}{b0:Bool}{B0:Option Addr}{m0 d0:Nat}(na:Bool)(A:Option Addr)(n c:Nat)(nb:Bool)(B:Option Addr)(m d:Nat)(hb:Blk w g t #[.bool a0,.slice A0 n0 c0,.bool b0,.slice B0 m0 d0]) :
    ∃ W,(((w.setCell ⟨g,0,none⟩ (.bool na)).setCell ⟨g,1,none⟩ (.slice A n c)).setCell ⟨g,2,none⟩ (.bool nb)).setCell ⟨g,3,none⟩ (.slice B m d)=W/\Blk W g t #[.bool na,.slice A n c,.bool nb,.slice B m d]/\Kept (λk=>k=g) w W/\W.heap.size=w.heap.size:=by
 exact En
theorem Fr.keptN{w w':World}{na:Bool}{A:Option Addr}{n c:Nat}{nb:Bool}{B:Option Addr}{m d:Nat}{r:Rat}{g:Nat}{t:TypeId}{cs:Array Value}(h:Fr w na A n c nb B m d r)(hk:Kept (λk=>k=g) w w')(hb:Blk w g t cs)(hn:NoLimb cs):Fr w' na A n c nb B m d r:=
 ⟨hk.wd h.1 (λk e=>by cases e;exact⟨_,_,hb,hn⟩),hk.wd h.2 (λk e=>by cases e;exact⟨_,_,hb,hn⟩)⟩
theorem Za9(a:Bool)(A:Option Addr)(n c:Nat)(b:Bool)(B:Option Addr)(m d:Nat):NoLimb #[.bool a,.slice A n c,.bool b,.slice B m d]:=λi x=>by
 match i with
 | 0=>simp
 | 1=>simp
 | 2=>simp
 | 3=>simp
 | i+4=>simp
theorem Zcj(x:Int)(w:World) :
    Calls Tryz.prog 40 #[.bool true,.int .i64 x] w λe w'=>e=.returned (.tuple #[])/\w'=w:=by
 go_in;go_wp2_with fail
 go_end0
 exact⟨rfl,rfl⟩
theorem Zbl(x:Int)(w:World) :
    Calls Tryz.prog 40 #[.bool false,.int .i64 x] w λe w'=>e=.panicked [{ v:=.iface 117 (.agg #[.int .i64 x]),recovered:=false }]/\w'=w:=by
 go_in;go_wp2_with fail;exact⟨rfl,rfl,rfl⟩
theorem Zfn(p:Addr)(w:World) :
    CallsD Tryz.prog 39 #[.pointer (some p)] .returning w λe u' w'=>e=.returned (.tuple #[])/\u'=.returning/\w'=w:=by
 refine callsD_of_wpS Tryz.func39 rfl λc₀ cs hu=>?_;apply wpS_seq;apply wpS_region;simp[wpOpsS,go_sem,recoverD,hu,Tryz.ntmps39,Exit.thenS];rw[show (#[Value.pointer (some p)]++(QJ 14 undef).setIfInBounds 4 Value.nilIface)=#[Value.pointer (some p),undef,undef,undef,undef,Value.nilIface,undef,undef,undef,undef,undef,undef,undef,undef,undef] from rfl];refine wpS_of_wp ?_;go_wp2_with fail;cases c₀
 simp_all [bodyPostS,results,Tryz.results39]
theorem Z0g(x:Int)(w:World):(Instr.typeAssert (.iface 117 (.agg #[.int .i64 x])) 20 117 true).run Tryz.prog w=.ok (.tuple #[.agg #[.int .i64 x],.bool true]) w:=by kernel_rfl
theorem Zb8(p:Addr)(x y:Int)(w:World)(hc:w.cell? p=some (.int .i64 y))(hz:w.frozen? p=false) :
    CallsD Tryz.prog 39 #[.pointer (some p)] (.panicking [{ v:=.iface 117 (.agg #[.int .i64 x]),recovered:=false }]) w λe u' w' =>
     e=.returned (.tuple #[])/\u'=.panicking [{ v:=.iface 117 (.agg #[.int .i64 x]),recovered:=true }]/\w'=(w.alloc (.cells #[.int .i64 x] 117)).setCell p (.int .i64 x):=by
 have f:=Zn hc;have o:(w.alloc (.cells #[.int .i64 x] 117)).cell? p=some (.int .i64 y):=by rw[World.cell?_alloc_lt _ _ _ f];exact hc
 have h:(w.alloc (.cells #[.int .i64 x] 117)).frozen? p=false:=by exact((Qb w.heap.size w).alloc (Qd _) _ |>.frozen f).trans hz
 have u:=Z0g x;refine callsD_of_wpS Tryz.func39 rfl λc₀ cs hu=>?_;apply wpS_seq;apply wpS_region;simp[wpOpsS,go_sem,recoverD,hu,Tryz.ntmps39,Exit.thenS];rw[show (#[Value.pointer (some p)]++(QJ 14 undef).setIfInBounds 4 (Value.iface 117 (.agg #[.int .i64 x])))=#[Value.pointer (some p),undef,undef,undef,undef,Value.iface 117 (.agg #[.int .i64 x]),undef,undef,undef,undef,undef,undef,undef,undef,undef] from rfl];refine wpS_of_wp ?_;go_wp2_with fail;simp[bodyPostS,results,Tryz.results39]
theorem Zf4(na nb:Bool)(A B:Option Addr)(n c m d:Nat)(q:Rat)(w:World)(h:Fr w na A n c nb B m d q) :
    Calls Tryz.prog 84 #[.agg #[.bool na,.slice A n c,.bool nb,.slice B m d],.int .i64 0] w (Zdn w q):=by
 obtain⟨W0,y,o,⟨q0,q1⟩,s0⟩:=Zdl w 41 #[.bool na,.slice A n c,.bool nb,.slice B m d] 73 #[.bool false,.slice none 0 0,.bool false,.slice none 0 0];obtain⟨a0,a1,a2,a3,-⟩:=q0.four;obtain⟨gR,u⟩:=Gz (w.heap.size+1);rw[u]at q1;have h0:=h.below o;go_in;go_wp2_with fail;(try rw[y]);refine(Zcj 0 W0).mono ?_;rintro e w1 ⟨rfl,rfl⟩;(try rw[u]);obtain⟨c0,c1,c2,c3,z0,z1,z2,z3⟩:=q1.four;obtain⟨W5,C,q5,f,s5⟩:=Zav na A n c nb B m d q1;go_wp2_with fail;(try rw[C]);obtain⟨r0,r1,r2,r3,-⟩:=q5.four;refine bodyPost_ret (v:=.agg #[.bool na,.slice A n c,.bool nb,.slice B m d]) (by simp[results,Tryz.results84,go_sem,r0,r1,r2,r3]) rfl ?_;refine⟨?_,_,_,_,_,_,_,_,_,rfl,h0.keptN f q1 (Za9 _ _ _ _ _ _ _ _)⟩;exact o.trans (f.to_below (λk e=>by omega) Gk)
theorem Ff{G:Prop}(h:G:=by
 have aD:=aw.trans ((Gs ae aa).mono aw.size);exact aD.trans (aL.to_below (λk e=>by omega) aD.size)):G:=h
theorem CB{G:Prop}(h:G:=by
 refine⟨?_,_,_,_,_,_,_,_,_,rfl,hr.keptN aL q2 (Za9 _ _ _ _ _ _ _ _)⟩;exact Ff):G:=h
theorem Zez(na nb na' nb':Bool)(A B A' B':Option Addr)(n c m d n' c' m' d':Nat)(a b:Rat)(w:World)(ha:Fr w na A n c nb B m d a)(hb:Fr w na' A' n' c' nb' B' m' d' b)(sa:Sm a)(sb:Sm b) :
    Calls Tryz.prog 71 #[.agg #[.bool na,.slice A n c,.bool nb,.slice B m d],.agg #[.bool na',.slice A' n' c',.bool nb',.slice B' m' d']] w (Zdn w (a-b)):=by
 obtain⟨W0,h,aw,⟨q0,q1,q2⟩,s0⟩:=Zb1 w 73 #[.bool na,.slice A n c,.bool nb,.slice B m d] 73 #[.bool na',.slice A' n' c',.bool nb',.slice B' m' d'] 73 #[.bool false,.slice none 0 0,.bool false,.slice none 0 0];obtain⟨a0,a1,a2,a3,-⟩:=q0.four;obtain⟨b0,b1,b2,b3,-⟩:=q1.four;obtain⟨gR,f⟩:=Gz (w.heap.size+1+1);rw[f]at q2;have hA:=ha.below aw;have hD:=hb.below aw;go_in;go_wp2_with fail;(try rw[h]);refine(Zwp na nb na' nb' A B A' B' n c m d n' c' m' d' a b W0 hA hD sa sb).mono ?_;rintro e w1 ⟨ae,pn,pA,pk,pc,pm,pB,pj,pd,rfl,hf⟩;replace q2:=Zc ae q2;clear a0 a1 a2 a3 b0 b1 b2 b3 q0 q1 hA hD;go_wp2_with fail;refine(Zf4 pn pm pA pB pk pc pj pd _ w1 hf).mono ?_;rintro e w2 ⟨aa,rn,rA,rk,rc,rm,rB,rj,rd,rfl,hr⟩;replace q2:=Zc aa q2;(try rw[f]);obtain⟨c0,c1,c2,c3,z0,z1,z2,z3⟩:=q2.four;obtain⟨W5,o,q5,aL,s5⟩:=Zav rn rA rk rc rm rB rj rd q2;clear hf;go_wp2_with fail;(try rw[o]);obtain⟨r0,r1,r2,r3,-⟩:=q5.four;refine bodyPost_ret (v:=.agg #[.bool rn,.slice rA rk rc,.bool rm,.slice rB rj rd]) (by simp[results,Tryz.results71,go_sem,r0,r1,r2,r3]) rfl ?_;exact CB
theorem Zti(z:Int):Rat.divInt z 1=(z:Rat):=by
 exact FG
theorem Zuu(z:Int)(w:World)(h1:-9223372036854775808<=z)(h2:z<=9223372036854775807) :
    Calls Tryz.prog 44 #[.int .i64 z] w (Zdn w (z:Rat)):=by
 obtain⟨W0,h,aw,q0,s0⟩:=Zak w 73 #[.bool false,.slice none 0 0,.bool false,.slice none 0 0];obtain⟨gR,f⟩:=Gz w.heap.size;rw[f]at q0;go_in;go_wp2_with fail;(try rw[h]);refine(Zq8 z 1 W0 h1 h2 Gj Gj).mono ?_;rw[Zti];rintro e w1 ⟨ae,pn,pA,pk,pc,pm,pB,pj,pd,rfl,hf⟩;replace q0:=Zc ae q0;go_wp2_with fail;refine(Zf4 pn pm pA pB pk pc pj pd _ w1 hf).mono ?_;rintro e w2 ⟨aa,rn,rA,rk,rc,rm,rB,rj,rd,rfl,hr⟩;replace q0:=Zc aa q0;(try rw[f]);obtain⟨c0,c1,c2,c3,z0,z1,z2,z3⟩:=q0.four;obtain⟨W5,o,q5,aL,s5⟩:=Zav rn rA rk rc rm rB rj rd q0;clear hf;go_wp2_with fail;(try rw[o]);obtain⟨r0,r1,r2,r3,-⟩:=q5.four;refine bodyPost_ret (v:=.agg #[.bool rn,.slice rA rk rc,.bool rm,.slice rB rj rd]) (by simp[results,Tryz.results44,go_sem,r0,r1,r2,r3]) rfl ?_;refine⟨?_,_,_,_,_,_,_,_,_,rfl,hr.keptN aL q0 (Za9 _ _ _ _ _ _ _ _)⟩;exact Ff
theorem Zza(z:Int)(w:World) :
    Calls Tryz.prog 161 #[.int .i64 z,.int .i64 0] w λe w'=>e=.returned (.int .i64 z)/\w'=w:=by
 go_in;go_wp2_with fail;refine(Zcj 0 w).mono ?_;rintro e w1 ⟨rfl,rfl⟩;go_wp2_with fail;go_returns;exact⟨rfl,rfl⟩
theorem Zy6(na:Bool)(A:Option Addr)(n c:Nat)(z:Int)(w:World)(hz:Wd w na A n c z) :
    Calls Tryz.prog 162 #[.agg #[.bool na,.slice A n c]] w λe w'=>e=.returned (.tuple #[.int .i64 (Zcq z 0),.int .i64 0])/\Below w.heap.size w w':=by
 obtain⟨r,hr⟩:=Gz (Zcq z 0);rw[hr];obtain⟨W0,o,hB,q,sz⟩:=Zak w 39 #[.bool na,.slice A n c];replace hz:=Za (hz.below hB);obtain⟨s0,s1,-,-⟩:=q.two;go_in;go_wp2_with fail;refine(Zq4 na false A none n c 0 0 z 0 W0 hz.out (Wd.zero _)).mono ?_;rintro e w1 ⟨rfl,h⟩;have f:=Gs hB h;rw[hr];replace hr:=Za hr;go_wp2_with fail;go_returns;exact⟨rfl,f⟩
theorem Zh3(xn:Bool)(xA:Option Addr)(xk xc:Nat)(xm:Bool)(xB:Option Addr)(xj xd:Nat)(q:Rat)(w:World)(h:Fr w xn xA xk xc xm xB xj xd q) :
    Calls Tryz.prog 118 #[.agg #[.bool xn,.slice xA xk xc,.bool xm,.slice xB xj xd]] w λe w'=>e=.returned (.int .i64 (Zcq q.num 0))/\Below w.heap.size w w':=by
 obtain⟨W0,o,f,q0,s0⟩:=Zak w 73 #[.bool xn,.slice xA xk xc,.bool xm,.slice xB xj xd];obtain⟨a0,a1,a2,a3,-⟩:=q0.four;have hX:=h.below f;go_in;go_wp2_with fail;(try rw[o]);refine(Zy6 xn xA xk xc q.num W0 hX.1).mono ?_;rintro e w1 ⟨rfl,u⟩;go_wp2_with fail;refine(Zza _ w1).mono ?_;rintro e w2 ⟨rfl,rfl⟩;go_wp2_with fail;go_returns;exact⟨rfl,Gs f u⟩
def Ziy(a:Rat)(qs:List Rat):Nat->Rat
 | 0=>a
 | j+1=>Ziy a qs j*(qs[j]?.getD 0)
def sumF(qs:List Rat):Nat->Rat
 | 0=>0
 | j+1=>sumF qs j+(qs[j]?.getD 0)
theorem IC{G:Prop}(h:G:=by
 exact ct.trans (aL.to_below (λk e=>by omega) (by have:=ct.size;have:=hK.size;omega))):G:=h
theorem IT{G:Prop}(h:G:=by
 go_roundg (k-(i+1))
 case measure=>omega
 case rel=>exact⟨i+1,_,_,_,_,_,_,_,_,by omega,by go_num,q5,gU,gV⟩):G:=h
theorem Zc2(an:Bool)(aA:Option Addr)(ak ac:Nat)(am:Bool)(aB:Option Addr)(aj ad:Nat)(a:Rat)(L:Option Addr)(k cap:Nat)(qs:List Rat)(w:World)(ha:Fr w an aA ak ac am aB aj ad a)(hl:FL w L k cap qs)(hk:k<=100)(hs:∀ j,j<k->Sm (Ziy a qs j))(he:∀ j:Nat,j<k->Sm (qs[j]?.getD 0)) :
    Calls Tryz.prog 45 #[.agg #[.bool an,.slice aA ak ac,.bool am,.slice aB aj ad],.slice L k cap] w (Zdn w (Ziy a qs k)):=by
 have a1:=hl.cap;unfold maxLen at a1;obtain⟨W0,a2,Y,⟨q0,q1⟩,s0⟩:=Zdl w 73 #[.bool an,.slice aA ak ac,.bool am,.slice aB aj ad] 73 #[.bool false,.slice none 0 0,.bool false,.slice none 0 0];obtain⟨g0,h⟩:=Gz w.heap.size;obtain⟨gR,I⟩:=Gz (g0+1);rw[h]at q0 q1 s0 Y;rw[I]at q1;have hA:=ha.below (h▸Y);have a5:Hid (W0.heap.size=gR+1):=Za (by rw[s0];omega);have a7:=Za hl;have b0:=Za hs;have b2:=Za he;have O:=Za h;clear hl hs he;go_in;go_wp2_with fail;(try rw[a2]);(try rw[h]);(try rw[I]);have a3:=Za I;clear a2 h I
 go_loopg [9] k (λt iv wr=>∃ (i:Nat) (xn:Bool) (xA:Option Addr) (xk xc:Nat) (xm:Bool) (xB:Option Addr) (xj xd:Nat),i+t=k/\iv=.int .i64 i/\Blk wr g0 73 #[.bool xn,.slice xA xk xc,.bool xm,.slice xB xj xd]/\Hid (Fr wr xn xA xk xc xm xB xj xd (Ziy a qs i))/\Kept (λk=>k=g0) W0 wr)
 case atStart=>exact⟨0,_,_,_,_,_,_,_,_,by omega,rfl,q0,Za hA,Qk _ _⟩
 case round =>
  obtain⟨i,xn,xA,xk,xc,xm,xB,xj,xd,d0,rfl,U,hX,hK⟩:=hrel;have b6:=a5.out;have b4:=a3.out;have T:=hK.blk q1 Gk;have ct:Below g0 w wr:=Y.trans (hK.to_below (λk hk=>by omega) Gk);obtain⟨x0,x1,x2,x3,y0,y1,y2,y3⟩:=U.four;cases gk with
  | zero =>
   obtain rfl:i=k:=Gk;have t1:decide ((i:Int)<(i:Int))=false:=Gh;obtain⟨c0,c1,c2,c3,z0,z1,z2,z3⟩:=T.four;obtain⟨W5,V,q5,aL,s5⟩:=Zav xn xA xk xc xm xB xj xd T;go_wp2_with fail;(try rw[V]);obtain⟨r0,r1,r2,r3,-⟩:=q5.four;refine bodyPost_ret (v:=.agg #[.bool xn,.slice xA xk xc,.bool xm,.slice xB xj xd]) (by simp[results,Tryz.results45,go_sem,r0,r1,r2,r3]) rfl ?_;refine⟨?_,_,_,_,_,_,_,_,_,rfl,hX.out.keptN aL T (Za9 _ _ _ _ _ _ _ _)⟩;rw[O.out];exact IC
  | succ t =>
   obtain rfl:t=k-(i+1):=Gk;have a0:i<k:=Gk;have t1:decide ((i:Int)<(k:Int))=true:=Gv Gk;have bi:(i:Int)<(k:Int):=Gk;obtain⟨gl,o,yn,yA,yk,yc,ym,yB,yj,yd,rfl,⟨c0,c1,c2,c3⟩,hY⟩:=(a7.out.below (O.out▸ct)).at_ a0;obtain⟨W1,c6,f,p1,s1⟩:=Zak wr 73 #[.bool false,.slice none 0 0,.bool false,.slice none 0 0];obtain⟨gn,a6⟩:=Gz wr.heap.size;rw[a6]at p1 s1;have b5:=Zc f U;obtain⟨υ0,υ1,υ2,υ3,v0,v1,v2,v3⟩:=p1.four;obtain⟨W2,a9,p2,b3,s2⟩:=Zav yn yA yk yc ym yB yj yd p1;have C:Below wr.heap.size wr W2:=f.trans (b3.to_below (λk e=>by omega) f.size);have a8:=hX.out.below C;have b1:=hY.below C;have J:=Zc C U;obtain⟨m0,m1,m2,m3,n0,n1,n2,n3⟩:=J.four;obtain⟨o0,o1,o2,o3,-⟩:=p2.four;have e0:=Zb f c0;have e1:=Zb f c1;have e2:=Zb f c2;have e3:=Zb f c3;go_wp2_with fail;(try rw[a9]);go_wp2_with fail;refine(Zwr xn xm yn ym xA xB yA yB xk xc xj xd yk yc yj yd _ _ W2 a8 b1 (b0.out i a0) (b2.out i a0)).mono ?_;rintro e w3 ⟨u,pn,pA,pk,pc,pm,pB,pj,pd,rfl,hf⟩;go_wp2_with fail;refine(Zf4 pn pm pA pB pk pc pj pd _ w3 hf).mono ?_;rintro e w4 ⟨a4,rn,rA,rk,rc,rm,rB,rj,rd,rfl,hr⟩;have y:=Zc a4 (Zc u J);obtain⟨b7,c7,c4,c9,c5,b8,b9,c8⟩:=y.four;obtain⟨W5,V,q5,aL,s5⟩:=Zav rn rA rk rc rm rB rj rd y;clear x0 x1 x2 x3 y0 y1 y2 y3 m0 m1 m2 m3 n0 n1 n2 n3 o0 o1 o2 o3 υ0 υ1 υ2 υ3 v0 v1 v2 v3 e0 e1 e2 e3 c0 c1 c2 c3;go_wp2_with fail;(try rw[V]);have gU:=Za (hr.keptN aL y (Za9 _ _ _ _ _ _ _ _));have gV:Kept (λk=>k=g0) W0 W5:=((hK.below C).below (Gs u a4)).trans aL;exact IT
theorem Zso(na nb na' nb':Bool)(A B A' B':Option Addr)(n c m d n' c' m' d':Nat)(a b:Rat)(w:World)(ha:Fr w na A n c nb B m d a)(hb:Fr w na' A' n' c' nb' B' m' d' b)(sa:Sm a)(sb:Sm b)(h0:b≠0) :
    Calls Tryz.prog 67 #[.agg #[.bool na,.slice A n c,.bool nb,.slice B m d],.agg #[.bool na',.slice A' n' c',.bool nb',.slice B' m' d']] w (Zdn w (a/b)):=by
 obtain⟨W0,h,aw,⟨q0,q1,q2⟩,s0⟩:=Zb1 w 73 #[.bool na,.slice A n c,.bool nb,.slice B m d] 73 #[.bool na',.slice A' n' c',.bool nb',.slice B' m' d'] 73 #[.bool false,.slice none 0 0,.bool false,.slice none 0 0];obtain⟨a0,a1,a2,a3,-⟩:=q0.four;obtain⟨b0,b1,b2,b3,-⟩:=q1.four;obtain⟨gR,f⟩:=Gz (w.heap.size+1+1);rw[f]at q2;have hA:=ha.below aw;have hD:=hb.below aw;go_in;go_wp2_with fail;(try rw[h]);refine(Zsa na nb na' nb' A B A' B' n c m d n' c' m' d' a b W0 hA hD sa sb h0).mono ?_;rintro e w1 ⟨ae,pn,pA,pk,pc,pm,pB,pj,pd,rfl,hf⟩;replace q2:=Zc ae q2;clear a0 a1 a2 a3 b0 b1 b2 b3 q0 q1 hA hD;go_wp2_with fail;refine(Zf4 pn pm pA pB pk pc pj pd _ w1 hf).mono ?_;rintro e w2 ⟨aa,rn,rA,rk,rc,rm,rB,rj,rd,rfl,hr⟩;replace q2:=Zc aa q2;(try rw[f]);obtain⟨c0,c1,c2,c3,z0,z1,z2,z3⟩:=q2.four;obtain⟨W5,o,q5,aL,s5⟩:=Zav rn rA rk rc rm rB rj rd q2;clear hf;go_wp2_with fail;(try rw[o]);obtain⟨r0,r1,r2,r3,-⟩:=q5.four;refine bodyPost_ret (v:=.agg #[.bool rn,.slice rA rk rc,.bool rm,.slice rB rj rd]) (by simp[results,Tryz.results67,go_sem,r0,r1,r2,r3]) rfl ?_;exact CB
theorem Zpq:(Tryz.prog.info? 73).map (λi=>(i.zero,i.size,i.bytes))=some (some (.agg #[.bool false,.slice none 0 0,.bool false,.slice none 0 0]),4,64):=by kernel_rfl
theorem Z1x:(Tryz.prog.info? 97).map (λi=>(i.zero,i.size,i.bytes))=some (some (.slice none 0 0),1,24):=by kernel_rfl
theorem Zgh{w:World}{t:TypeId}{g:Nat}{A:Option Addr}{n c:Nat}(h:Blk w g t #[.slice A n c]):Reads w (g+1) 1 (some ⟨g,0,none⟩) 1 (Zan [⟨A,n,c⟩]):=
 ⟨rfl,λ_=>⟨_,rfl,Qx _,λj u hu=>by
  rw[Zg,Nat.zero_add,h.cell];simpa [Zan]using hu⟩⟩
def Zjj(A:Nat->Nat->Rat)(i k:Nat):List Rat:=(Qm k).map (lQ A i)
def Zha(A:Nat->Nat->Rat)(i:Nat):List (List Rat):=(Qm i).map λr=>Zjj A r r
def dsL(A:Nat->Nat->Rat)(i:Nat):List Rat:=(Qm i).map (dQ A)
section
variable{A:Nat->Nat->Rat}{i j k:Nat}
theorem Zf5:(Zjj A i k).length=k:=by simp[Zjj]
theorem Zfx:(Zha A i).length=i:=by simp[Zha]
theorem Zjw:(dsL A i).length=i:=by simp[dsL]
theorem Zly(h:j<k):(Zjj A i k)[j]?.getD 0=lQ A i j:=by simp[Zjj,h]
theorem Zmu(h:j<i):(Zha A i)[j]?.getD []=Zjj A j j:=by simp[Zha,h]
theorem Zqc(h:j<i):(dsL A i)[j]?.getD 0=dQ A j:=by simp[dsL,h]
theorem Zy0:Zjj A i (k+1)=Zjj A i k ++ [lQ A i k]:=by simp[Zjj,Qy]
theorem Zm5:Zha A (i+1)=Zha A i ++ [Zjj A i i]:=by simp[Zha,Qy]
theorem Z1o:dsL A (i+1)=dsL A i ++ [dQ A i]:=by simp[dsL,Qy]
end
theorem cmpZ_pos0{z:Int}:(0<Zcq z 0) ↔ 0<z:=by
 unfold Zcq
 split
 ·constructor <;> intro h <;> omega
 split
 ·constructor <;> intro h <;> omega
 constructor <;> intro h <;> omega
theorem num_pos0{q:Rat}:0<q.num ↔ 0<q:=by
 constructor
 ·intro h
  refine Rat.lt_of_le_of_ne (Rat.num_nonneg.1 Gk) (λe=>?_);rw[<- e]at h;exact absurd h Gj
 intro h;have h5:=Rat.num_nonneg.2 (Rat.le_of_lt h);rcases Int.lt_or_eq_of_le h5 with h6|h6;exact h6;rw[Rat.num_eq_zero.1 h6.symm]at h;exact absurd h Gj
def FacPost(A:Nat->Nat->Rat)(n:Nat)(w:World)(e:Ending)(w':World):Prop:=
 Below w.heap.size w w'/\((posP A n/\∃ v1 v2 rs,e=.returned (.agg #[v1,v2])/\FacM 97 73 w' w.heap.size v1 v2 rs (Zha A n) (dsL A n)) \/
  (¬ posP A n/\e=.panicked [{ v:=.iface 117 (.agg #[.int .i64 8]),recovered:=false }]))
theorem FacM.lower{tS tN:TypeId}{w:World}{b b':Nat}{v1 v2:Value}{rs:List RS}{Q:List (List Rat)}{ds:List Rat}(h:FacM tS tN w b v1 v2 rs Q ds)(hb:b'<=b):FacM tS tN w b' v1 v2 rs Q ds:=by
 refine⟨⟨?_,h.1.2.1,λi r hr=>(h.1.2.2.1 i r hr).lower hb,h.1.2.2.2⟩,h.2.1.lower hb,h.2.2⟩;rcases h.1.1 with h|⟨g,sp,h1,h2,h3⟩;exact .inl h;exact Cp
theorem Zpa{A:Nat->Nat->Rat}{n i k j:Nat}(h:FacP A n)(hi:i<n)(hk:k<i)(hj:j<k)(hp:posP A i):(∀ t,t<2->Sm (Ziy (lQ A i j) [lQ A k j,dQ A j] t))/\∀ t:Nat,t<2->Sm ([lQ A k j,dQ A j][t]?.getD 0):=by
 have e:posP A (j+1):=hp.mono Gk;constructor
 ·intro t ht
  match t,ht with
  | 0,_=>exact(h.l i j Gk hi e).sm Gj Gj
  | 1,_=>exact(h.ll Gk hi Gk (show k<n by omega) e).sm Gj Gj
 intro t ht
 match t,ht with
 | 0,_=>exact(h.l k j Gk Gk e).sm Gj Gj
 | 1,_=>exact(h.d (show j<n by omega) (hp.mono Gk)).sm Gj Gj
theorem Zmb{A:Nat->Nat->Rat}{n i k:Nat}(h:FacP A n)(hi:i<n)(hk:k<i)(hp:posP A i):(∀ t,t<2->Sm (Ziy (lQ A i k) [lQ A i k,dQ A k] t))/\∀ t:Nat,t<2->Sm ([lQ A i k,dQ A k][t]?.getD 0):=by
 have e:posP A (k+1):=hp.mono Gk;constructor
 ·intro t ht
  match t,ht with
  | 0,_=>exact(h.l i k Gk hi e).sm Gj Gj
  | 1,_=>exact(h.ll Gk hi Gk hi e).sm Gj Gj
 intro t ht
 match t,ht with
 | 0,_=>exact(h.l i k Gk hi e).sm Gj Gj
 | 1,_=>exact(h.d (show k<n by omega) (hp.mono Gk)).sm Gj Gj
theorem Zzd{A:Nat->Nat->Rat}{n i k j:Nat}(h:FacP A n)(hi:i<n)(hk:k<i)(hj:j<k)(hp:posP A i):Sm (Zr A j i k)/\Sm (Ziy (lQ A i j) [lQ A k j,dQ A j] 2):=
 ⟨(h.s j i k Gk (hp.mono Gk) hi Gk).sm Gj Gj,(h.lld Gk hi Gk (show k<n by omega) (hp.mono Gk)).sm Gj Gj⟩
theorem Zwi{A:Nat->Nat->Rat}{n i k:Nat}(h:FacP A n)(hi:i<n)(hk:k<i)(hp:posP A i):Sm (Zr A k i i)/\Sm (Ziy (lQ A i k) [lQ A i k,dQ A k] 2):=
 ⟨(h.s k i i Gk (hp.mono Gk) hi hi).sm Gj Gj,(h.lld Gk hi Gk hi (hp.mono Gk)).sm Gj Gj⟩
theorem fac_q{A:Nat->Nat->Rat}{n i k:Nat}(h:FacP A n)(hi:i<n)(hk:k<i)(hp:posP A i):Sm (Zr A k i k)/\Sm (dQ A k)/\dQ A k≠0:=
 ⟨(h.s k i k Gk (hp.mono Gk) hi Gk).sm Gj Gj,(h.d (show k<n by omega) (hp.mono Gk)).sm Gj Gj,hp.ne hk⟩
theorem Zub(A0:Option Addr)(n c:Nat)(Q:List (List Rat))(w:World)(h:MFL w A0 n c Q)(hn9:n<=900)(hm:∀ i,i<n->(Q[i]?.getD []).length=n)(hF:FacP (Zi Q) n) :
    Calls Tryz.prog 107 #[.slice A0 n c] w (FacPost (Zi Q) n w):=by
 obtain⟨iN,hi,F8,D9,F3⟩:=info_parts Zpq;obtain⟨iS,ki,k6,k8,k9⟩:=info_parts Z1x;have hmx:=Gt;have c3:(97:TypeId)≠73:=Gj;have K3:=h.2.1;have I5:=h.2.2.1;unfold maxLen at I5;obtain⟨AQ,s6⟩:=Gz (Zi Q);rw[s6]at hF ⊢;obtain⟨W0,F2,s8,q0,s0⟩:=Zak w 99 #[.slice none 0 0,.slice none 0 0];obtain⟨gx,g0⟩:=Gz w.heap.size;rw[g0]at q0 s0 s8;have J3:Hid (W0.heap.size=gx+1):=Za s0;have hH:=Za h;replace hm:=Za hm;replace hF:=Za hF;replace s6:=Za s6;clear h s0;go_in;go_wp2_with fail;(try rw[F2]);(try rw[g0]);replace g0:=Za g0;replace s8:=Za s8;clear F2
 go_loopg [12] n (λt iv wr=>∃ (i:Nat) (v1 v2:Value) (rs:List RS),i+t=n/\iv=.int .i64 i/\Blk wr gx 99 #[v1,v2]/\FacM 97 73 wr W0.heap.size v1 v2 rs (Zha AQ i) (dsL AQ i)/\Hid (posP AQ i)/\Kept (λk=>k=gx) W0 wr)
 case atStart=>exact⟨0,.slice none 0 0,.slice none 0 0,[],by omega,rfl,q0,FacM.nil _ _ _ _,Za (λt ht=>by omega),Qk _ _⟩
 case round =>
  clear q0;obtain⟨wi,rfl⟩:=Gy wr;obtain⟨i,v1,v2,rs,K8,rfl,f,c6,y,hK⟩:=hrel;have K2:=J3.out;have d9:Hid (Below gx w wi):=Za (s8.out.trans (hK.to_below (λk hk=>by omega) Gk));obtain⟨A1,c1,e1,o8⟩:=c6.1.mflA;obtain⟨A2,c2,e2,d7⟩:=c6.2.1.fl;rw[Zfx]at e1 o8;rw[Zjw]at e2 d7;subst e1;subst e2;have x0:wi.cell? ⟨gx,0,none⟩=some (.slice A1 i c1):=by rw[f.cell];rfl
  have x1:wi.cell? ⟨gx,1,none⟩=some (.slice A2 i c2):=by rw[f.cell];rfl
  have z0:=f.frozen 0;have z1:=f.frozen 1;cases gk with
  | zero =>
   obtain rfl:i=n:=Gk;have t1:decide ((i:Int)<(i:Int))=false:=Gh;obtain⟨X,hX⟩:∃ X,(wi.setCell ⟨gx,0,none⟩ (.slice A1 i c1)).setCell ⟨gx,1,none⟩ (.slice A2 i c2)=X:=⟨_,rfl⟩;have B9:Kept (λk=>k=gx) wi X:=by rw[<- hX];exact Kept.set_ (G:=λk=>k=gx) (Kept.set_ (G:=λk=>k=gx) (Qk _ _) (p:=⟨gx,0,none⟩) (.inl rfl) _) (p:=⟨gx,1,none⟩) (.inl rfl) _
   have A4:Blk X gx 99 #[.slice A1 i c1,.slice A2 i c2]:=by rw[<- hX];exact(f.set_ 0 (.slice A1 i c1)).set_ 1 (.slice A2 i c2)
   have y0:X.cell? ⟨gx,0,none⟩=some (.slice A1 i c1):=by rw[A4.cell];rfl
   have y1:X.cell? ⟨gx,1,none⟩=some (.slice A2 i c2):=by rw[A4.cell];rfl
   have I9:=Za (c6.box f (Zk2 _ _ _ _ _ _) Gk B9);have I4:Hid (Below gx w X):=Za (d9.out.trans (B9.to_below (λk hk=>by omega) (by have:=d9.out.size;have:=hK.size;omega)));clear c6 o8 d7 hK B9 A4 f;go_wp2_with fail;(try rw[hX]);refine bodyPost_ret (v:=.agg #[.slice A1 i c1,.slice A2 i c2]) (by simp[results,Tryz.results107,go_sem,y0,y1]) rfl ?_;refine⟨by rw[g0.out];exact I4.out,.inl ⟨y.out,_,_,rs,rfl,I9.out.lower (by rw[g0.out];omega)⟩⟩
  | succ t =>
   obtain rfl:t=n-(i+1):=Gk;have a1:i<n:=Gk;have t1:decide ((i:Int)<(n:Int))=true:=Gv Gk;have bi:(i:Int)<(n:Int):=Gk;obtain⟨ga,oa,Ar,nr,cr,rfl,k0,hR⟩:=(hH.out.below (g0.out▸d9.out)).at_ a1;obtain⟨row,e0⟩:=Gz (Q[i]?.getD []);rw[e0]at hR;have H4:n=nr:=by rw[<- hR.len,<- e0];exact(hm.out i a1).symm
   subst H4;have υ4:Hid (∀ t:Nat,row[t]?.getD 0=AQ i t):=Za (λt=>by rw[<- s6.out,<- e0];rfl);replace e0:=Za e0;obtain⟨gr,or_,xn,xA,xk,xc,xm,xB,xj,xd,rfl,⟨r0,r1,r2,r3⟩,hX⟩:=hR.at_ a1;rw[υ4.out]at hX;obtain⟨V1,H1,m5,p1,s1⟩:=Zak wi 73 #[.bool false,.slice none 0 0,.bool false,.slice none 0 0];obtain⟨gl,l7⟩:=Gz wi.heap.size;rw[l7]at p1 s1;obtain⟨υ0,υ1,υ2,υ3,v0,v1,v2,v3⟩:=p1.four;obtain⟨W2,F1,p2,F5,s2⟩:=Zav xn xA xk xc xm xB xj xd p1;have n9:Below wi.heap.size wi W2:=m5.trans (F5.to_below (λk e=>by omega) m5.size);have J4:Hid (W2.heap.size=gl+1):=Za (by rw[s2,s1]);have E4:=Za (hX.below n9);have F0:Hid (gx<gl):=Za (by have:=d9.out.size;have:=hK.size;omega);replace n9:=Za n9;replace c6:=Za c6;replace o8:=Za o8;replace d7:=Za d7;replace hR:=Za hR;replace f:=Za f;replace hK:=Za hK;replace p2:=Za p2;clear hX m5 F5 s1 s2;go_wp2_with fail;(try rw[l7]);(try rw[F1]);clear υ0 υ1 υ2 υ3 v0 v1 v2 v3 p1 H1 F1 r0 r1 r2 r3 k0;replace l7:=Za l7
   go_loopg [5,23] i (λt ov kv wk=>∃ (k:Nat) (ln:Bool) (lA:Option Addr) (lk lc:Nat) (lm:Bool) (lB:Option Addr) (lj ld:Nat),k+t=i/\kv=.int .i64 k/\OwnF 73 wk W2.heap.size ov (Zjj AQ i k)/\Blk wk gl 73 #[.bool ln,.slice lA lk lc,.bool lm,.slice lB lj ld]/\Hid (Fr wk ln lA lk lc lm lB lj ld (Zr AQ k i i))/\Kept (λg=>g=gl) W2 wk)
   case atStart=>exact⟨0,_,_,_,_,_,_,_,_,by omega,rfl,OwnF.nil _ _ _,p2.out,E4,Qk _ _⟩
   case round =>
    clear p2 E4;obtain⟨wk,rfl⟩:=Gy wr;obtain⟨k,ln,lA,lk,lc,lm,lB,lj,ld,K9,rfl,a0,b4,hl,c0⟩:=hrel;have J7:=J4.out;have K0:=l7.out;have J5:=F0.out;have f9:Hid (Below wi.heap.size wi wk):=Za (n9.out.trans (c0.to_below (λk e=>by omega) Gk));obtain⟨Ao,co,e3,c5⟩:=a0.fl;rw[Zf5]at e3 c5;subst e3;have w4:=c5.cap;unfold maxLen at w4;have b9:=Zc f9.out f.out;have F9:wk.cell? ⟨gx,0,none⟩=some (.slice A1 i c1):=by rw[b9.cell];rfl
    have C9:wk.cell? ⟨gx,1,none⟩=some (.slice A2 i c2):=by rw[b9.cell];rfl
    have E1:=b9.frozen 0;have G2:=b9.frozen 1;clear x0 x1 z0 z1;obtain⟨l0,l1,l2,l3,m0,m1,m2,m3⟩:=b4.four;cases gk with
    | zero =>
     obtain rfl:k=i:=Gk;have t2:decide ((k:Int)<(k:Int))=false:=Gh;have D1:Hid (Zr AQ k k k=dQ AQ k):=Za rfl;by_cases hp:0<dQ AQ k
     case neg =>
      have J6:Hid (¬ posP AQ n):=Za (λhp9=>hp (hp9 k a1));have t4:decide ((0:Int)<Zcq (Zr AQ k k k).num 0)=false:=Gu (λh=>hp (by rw[<- D1.out];exact num_pos0.1 (cmpZ_pos0.1 h)));replace hp:=Za hp;replace c5:=Za c5;replace a0:=Za a0;replace c0:=Za c0;replace b4:=Za b4;clear b9;go_wp2_with fail;refine(Zh3 ln lA lk lc lm lB lj ld _ wk hl.out).mono ?_;rintro e w5 ⟨rfl,a5⟩;go_wp2_with fail;refine(Zbl 8 w5).mono ?_;rintro e w6 ⟨rfl,rfl⟩;go_wp2_with fail;refine⟨rfl,?_,.inr ⟨J6.out,rfl⟩⟩;have h1:=d9.out.trans ((Gs f9.out a5).mono Gk);rw[g0.out];exact h1
     have y9:Hid (posP AQ (k+1)):=Za (λt ht=>by
      rcases Qs t k with h1|h1;exact y.out t h1;rw[show t=k by omega];exact hp)
     have t4:decide ((0:Int)<Zcq (Zr AQ k k k).num 0)=true:=Gv (cmpZ_pos0.2 (num_pos0.2 (by rw[D1.out];exact hp)));replace hp:=Za hp;replace c5:=Za c5;replace a0:=Za a0;replace c0:=Za c0;replace b4:=Za b4;clear b9;go_wp2_with fail;refine(Zh3 ln lA lk lc lm lB lj ld _ wk hl.out).mono ?_;rintro e w5 ⟨rfl,a5⟩;go_wp2_with fail;refine(Zcj 8 w5).mono ?_;rintro e w6 ⟨rfl,rfl⟩;have j2:Below wi.heap.size wi w6:=Gs f9.out a5;have r4:EnvF 97 73 99 w6 W0.heap.size W2.heap.size gl gx (.slice A1 k c1) (.slice A2 k c2) (.slice A1 k c1) (.slice A2 k c2) (.slice Ao k co) rs (Zha AQ k) (dsL AQ k) (Zjj AQ k k) ln lA lk lc lm lB lj ld (dQ AQ k):=⟨c6.out.kept j2,a0.out.kept a5,Zc a5 b4.out,hl.out.below a5,Zc j2 f.out⟩;have I2:Hid (Kept (λk=>k=gx) W0 w6):=Za (hK.out.below j2);have b2:gx<W0.heap.size:=Gk;have c8:Hid (gl<W2.heap.size):=Za Gk;have c7:Hid (∀ k',(Value.slice A2 k c2).ownBlock=some k'->k'<gl):=Za (λk' e=>by have:=c6.out.2.1.blt k' e;omega);have c9:Hid (∀ s ∈ rs,∀ k',s.val.ownBlock=some k'->k'<W2.heap.size):=Za (λs hs k' e=>by have:=c6.out.rlt s hs k' e;omega);have L0:(rs).length=k:=by rw[c6.out.1.2.1,Zfx]
     have a6:rs.length+1<=1000:=Gk;have A3:(dsL AQ k).length+1<=1000:=by rw[Zjw];omega
     obtain⟨J8,K7⟩:=r4.cells;replace r4:=Za r4;clear a5 j2 F9 C9 E1 G2 l0 l1 l2 l3 m0 m1 m2 m3;go_wp2_with fail;obtain⟨X0,U⟩:=Gz w6.drew;have n2:Below w6.heap.size w6 X0:=by rw[<- U];exact Zf (Qb _ _) 1
     have hE:=r4.out.below n2;have x3:Kept (λk=>k=gx) W0 X0:=I2.out.below n2;have B7:w6.drew.cell? ⟨gx,0,none⟩=some (.slice A1 k c1)/\w6.drew.cell? ⟨gx,1,none⟩=some (.slice A2 k c2):=by rw[U];exact hE.cells
     refine Zx [11,13] (λwx=>wx.cell? ⟨gx,0,none⟩=some (.slice A1 k c1)/\wx.cell? ⟨gx,1,none⟩=some (.slice A2 k c2)) hmx B7 (λhxs9=>?_);refine Zj5 5 [0,1,2,5,6] rfl Gi B7 ?_
     iterate 5 (refine tkA ?_;try simp only[Qa,Zg7,Zgl,Zg1,Gr,Gq,Gp])
     refine tk0 ?_;rw[U];clear B7 hxs9 n2 U;have k7:Hid (W0.heap.size<=W2.heap.size):=Za Gk;refine Zdc (i:=3) (j:=7) rfl rfl Gi (λK hK=>?_) (λK hK=>?_)
     focus
      obtain⟨Y1,T⟩:=Gz (X0.alloc (.cells #[.slice Ao k co] 97));obtain⟨r9,o6⟩:=Gz X0.heap.size;have υ9:Below X0.heap.size X0 Y1:=by rw[<- T];exact(Qb _ _).alloc (Qd _) _
      have n8:Blk Y1 r9 97 #[.slice Ao k co]:=by rw[<- T,<- o6];exact Qi _ _ _
      have a4:=hE.below υ9;have e6:=x3.below υ9;go_simp;(try rw[T]);(try rw[o6]);refine hK.out _ _ (λ_=>a4.cells) ?_;clear hK K T o6
      try simp only[Qa,Zg7,Zgl,Zg1]
      refine Zdc (i:=4) (j:=7) rfl rfl Gi (λK hK=>?_) (λK hK=>?_)
      focus
       rw[Gx Ge];refine Zax _ (.tmp 90) (.tmp 92) 96 rfl W0.heap.size 97 iS Tryz.underlying96 ki k6 k8 k9 (.slice A1 k c1) rs rfl a4.1.1.1 _ (some ⟨r9,0,none⟩) 1 1 [⟨Ao,k,co⟩] rfl (Zgh n8) rfl a6 e6.size ?_;intro J0 Y4 D4 υ6 D8;have f4:=a4.app c3 (r:=⟨Ao,k,co⟩) rfl k7.out c9.out (λk' e=>Ql (c7.out k' e) c8.out) b2 D4 υ6 D8;have E0:=Kept.grownC e6 υ6 (λk' hk=>a4.1.1.1.row_ge k' hk);refine hK.out _ _ (λ_=>f4.cells) ?_;clear hK K
       try simp only[Qa,Zg7,Zgl,Zg1]
       refine Zgm 1 [10] rfl Gi f4.cells ?_
       (refine tkA ?_;try simp only[Qa,Zg7,Zgl,Zg1,Gr,Gq,Gp])
       refine tk0 ?_;refine wpAnyL_o 7 λK hK=>?_;obtain⟨I1,I8,H3,I3⟩:=f4.left;go_simp;refine hK.out _ _ (λ_=>f4.cells) ?_;clear hK K I1 I8 H3 I3
       try simp only[Qa,Zg7,Zgl,Zg1]
       refine wpAnyL_o 8 λK hK=>?_;obtain⟨Y6,r8⟩:=Gz (Y4.alloc (.cells #[.bool ln,.slice lA lk lc,.bool lm,.slice lB lj ld] 73));obtain⟨F7,l6⟩:=Gz Y4.heap.size;have v4:Below Y4.heap.size Y4 Y6:=by rw[<- r8];exact(Qb _ _).alloc (Qd _) _
       have C3:Blk Y6 F7 73 #[.bool ln,.slice lA lk lc,.bool lm,.slice lB lj ld]:=by rw[<- r8,<- l6];exact Qi _ _ _
       have t9:=f4.below v4;have D3:=E0.below v4;go_simp;(try rw[r8]);(try rw[l6]);refine hK.out _ _ (λ_=>t9.cells) ?_;clear hK K r8 l6
       try simp only[Qa,Zg7,Zgl,Zg1]
       have EL:=t9;have KL:=D3;have bL:=C3;obtain⟨vL,rfl⟩:∃ x:Value,x=J0:=⟨_,rfl⟩;obtain⟨gL,rfl⟩:∃ x:Nat,x=F7:=⟨_,rfl⟩;obtain⟨WL,rfl⟩:=Gy Y6
      rotate_left 1
      focus
       obtain⟨I7,H8,H2,H9⟩:=a4.left;go_simp;refine hK.out _ _ (λ_=>a4.cells) ?_;clear hK K I7 H8 H2 H9
       try simp only[Qa,Zg7,Zgl,Zg1]
       refine Zdc (i:=4) (j:=8) rfl rfl Gi (λK hK=>?_) (λK hK=>?_)
       focus
        rw[Gx Ge];refine Zax _ (.tmp 90) (.tmp 92) 96 rfl W0.heap.size 97 iS Tryz.underlying96 ki k6 k8 k9 (.slice A1 k c1) rs rfl a4.1.1.1 _ (some ⟨r9,0,none⟩) 1 1 [⟨Ao,k,co⟩] rfl (Zgh n8) rfl a6 e6.size ?_;intro C5 r7 z5 m6 v7;have i3:=a4.app c3 (r:=⟨Ao,k,co⟩) rfl k7.out c9.out (λk' e=>Ql (c7.out k' e) c8.out) b2 z5 m6 v7;have y5:=Kept.grownC e6 m6 (λk' hk=>a4.1.1.1.row_ge k' hk);refine hK.out _ _ (λ_=>i3.cells) ?_;clear hK K
        try simp only[Qa,Zg7,Zgl,Zg1]
        refine Zgm 1 [10] rfl Gi i3.cells ?_
        (refine tkA ?_;try simp only[Qa,Zg7,Zgl,Zg1,Gr,Gq,Gp])
        refine tk0 ?_;refine wpAnyL_o 8 λK hK=>?_;obtain⟨B3,j7⟩:=Gz (r7.alloc (.cells #[.bool ln,.slice lA lk lc,.bool lm,.slice lB lj ld] 73));obtain⟨υ5,j0⟩:=Gz r7.heap.size;have o4:Below r7.heap.size r7 B3:=by rw[<- j7];exact(Qb _ _).alloc (Qd _) _
        have w8:Blk B3 υ5 73 #[.bool ln,.slice lA lk lc,.bool lm,.slice lB lj ld]:=by rw[<- j7,<- j0];exact Qi _ _ _
        have q8:=i3.below o4;have v6:=y5.below o4;go_simp;(try rw[j7]);(try rw[j0]);refine hK.out _ _ (λ_=>q8.cells) ?_;clear hK K j7 j0
        try simp only[Qa,Zg7,Zgl,Zg1]
        have EL:=q8;have KL:=v6;have bL:=w8;obtain⟨vL,rfl⟩:∃ x:Value,x=C5:=⟨_,rfl⟩;obtain⟨gL,rfl⟩:∃ x:Nat,x=υ5:=⟨_,rfl⟩;obtain⟨WL,rfl⟩:=Gy B3
       rotate_left 1
       focus
        obtain⟨D7,j8⟩:=Gz (Y1.alloc (.cells #[.bool ln,.slice lA lk lc,.bool lm,.slice lB lj ld] 73));obtain⟨t6,g9⟩:=Gz Y1.heap.size;have h3:Below Y1.heap.size Y1 D7:=by rw[<- j8];exact(Qb _ _).alloc (Qd _) _
        have A5:Blk D7 t6 73 #[.bool ln,.slice lA lk lc,.bool lm,.slice lB lj ld]:=by rw[<- j8,<- g9];exact Qi _ _ _
        have b8:=a4.below h3;have n0:=e6.below h3;have q6:=Zc h3 n8;go_simp;(try rw[j8]);(try rw[g9]);refine hK.out _ _ (λ_=>b8.cells) ?_;clear hK K j8 g9
        try simp only[Qa,Zg7,Zgl,Zg1]
        refine wpAnyL_o 4 λK hK=>?_;rw[Gx Ge];refine Zax _ (.tmp 90) (.tmp 92) 96 rfl W0.heap.size 97 iS Tryz.underlying96 ki k6 k8 k9 (.slice A1 k c1) rs rfl b8.1.1.1 _ (some ⟨r9,0,none⟩) 1 1 [⟨Ao,k,co⟩] rfl (Zgh q6) rfl a6 n0.size ?_;intro C7 J2 w2 i5 A6;have h4:=b8.app c3 (r:=⟨Ao,k,co⟩) rfl k7.out c9.out (λk' e=>Ql (c7.out k' e) c8.out) b2 w2 i5 A6;have w3:=Kept.grownC n0 i5 (λk' hk=>b8.1.1.1.row_ge k' hk);have k2:=b8.far c3 i5 A5;refine hK.out _ _ (λ_=>h4.cells) ?_;clear hK K
        try simp only[Qa,Zg7,Zgl,Zg1]
        refine Zgm 1 [10] rfl Gi h4.cells ?_
        (refine tkA ?_;try simp only[Qa,Zg7,Zgl,Zg1,Gr,Gq,Gp])
        refine tk0 ?_;have EL:=h4;have KL:=w3;have bL:=k2;obtain⟨vL,rfl⟩:∃ x:Value,x=C7:=⟨_,rfl⟩;obtain⟨gL,rfl⟩:∃ x:Nat,x=t6:=⟨_,rfl⟩;obtain⟨WL,rfl⟩:=Gy J2
     rotate_left 3
     focus
      obtain⟨G3,F4,E9,E3⟩:=hE.left;go_simp;refine hK.out _ _ (λ_=>hE.cells) ?_;clear hK K G3 F4 E9 E3
      try simp only[Qa,Zg7,Zgl,Zg1]
      refine Zdc (i:=3) (j:=8) rfl rfl Gi (λK hK=>?_) (λK hK=>?_)
      focus
       obtain⟨j9,j5⟩:=Gz (X0.alloc (.cells #[.slice Ao k co] 97));obtain⟨n5,i7⟩:=Gz X0.heap.size;have q5:Below X0.heap.size X0 j9:=by rw[<- j5];exact(Qb _ _).alloc (Qd _) _
       have m8:Blk j9 n5 97 #[.slice Ao k co]:=by rw[<- j5,<- i7];exact Qi _ _ _
       have b7:=hE.below q5;have i9:=x3.below q5;go_simp;(try rw[j5]);(try rw[i7]);refine hK.out _ _ (λ_=>b7.cells) ?_;clear hK K j5 i7
       try simp only[Qa,Zg7,Zgl,Zg1]
       refine Zdc (i:=4) (j:=8) rfl rfl Gi (λK hK=>?_) (λK hK=>?_)
       focus
        rw[Gx Ge];refine Zax _ (.tmp 90) (.tmp 92) 96 rfl W0.heap.size 97 iS Tryz.underlying96 ki k6 k8 k9 (.slice A1 k c1) rs rfl b7.1.1.1 _ (some ⟨n5,0,none⟩) 1 1 [⟨Ao,k,co⟩] rfl (Zgh m8) rfl a6 i9.size ?_;intro C8 r5 z3 o7 x5;have h2:=b7.app c3 (r:=⟨Ao,k,co⟩) rfl k7.out c9.out (λk' e=>Ql (c7.out k' e) c8.out) b2 z3 o7 x5;have B2:=Kept.grownC i9 o7 (λk' hk=>b7.1.1.1.row_ge k' hk);refine hK.out _ _ (λ_=>h2.cells) ?_;clear hK K
        try simp only[Qa,Zg7,Zgl,Zg1]
        refine Zgm 1 [10] rfl Gi h2.cells ?_
        (refine tkA ?_;try simp only[Qa,Zg7,Zgl,Zg1,Gr,Gq,Gp])
        refine tk0 ?_;refine wpAnyL_o 8 λK hK=>?_;obtain⟨x2,j6⟩:=Gz (r5.alloc (.cells #[.bool ln,.slice lA lk lc,.bool lm,.slice lB lj ld] 73));obtain⟨υ8,i1⟩:=Gz r5.heap.size;have m7:Below r5.heap.size r5 x2:=by rw[<- j6];exact(Qb _ _).alloc (Qd _) _
        have B4:Blk x2 υ8 73 #[.bool ln,.slice lA lk lc,.bool lm,.slice lB lj ld]:=by rw[<- j6,<- i1];exact Qi _ _ _
        have o5:=h2.below m7;have B8:=B2.below m7;go_simp;(try rw[j6]);(try rw[i1]);refine hK.out _ _ (λ_=>o5.cells) ?_;clear hK K j6 i1
        try simp only[Qa,Zg7,Zgl,Zg1]
        have EL:=o5;have KL:=B8;have bL:=B4;obtain⟨vL,rfl⟩:∃ x:Value,x=C8:=⟨_,rfl⟩;obtain⟨gL,rfl⟩:∃ x:Nat,x=υ8:=⟨_,rfl⟩;obtain⟨WL,rfl⟩:=Gy x2
       rotate_left 1
       focus
        obtain⟨E5,j4⟩:=Gz (j9.alloc (.cells #[.bool ln,.slice lA lk lc,.bool lm,.slice lB lj ld] 73));obtain⟨υ7,h9⟩:=Gz j9.heap.size;have i6:Below j9.heap.size j9 E5:=by rw[<- j4];exact(Qb _ _).alloc (Qd _) _
        have v5:Blk E5 υ7 73 #[.bool ln,.slice lA lk lc,.bool lm,.slice lB lj ld]:=by rw[<- j4,<- h9];exact Qi _ _ _
        have b5:=b7.below i6;have m4:=i9.below i6;have l4:=Zc i6 m8;go_simp;(try rw[j4]);(try rw[h9]);refine hK.out _ _ (λ_=>b5.cells) ?_;clear hK K j4 h9
        try simp only[Qa,Zg7,Zgl,Zg1]
        refine wpAnyL_o 4 λK hK=>?_;rw[Gx Ge];refine Zax _ (.tmp 90) (.tmp 92) 96 rfl W0.heap.size 97 iS Tryz.underlying96 ki k6 k8 k9 (.slice A1 k c1) rs rfl b5.1.1.1 _ (some ⟨n5,0,none⟩) 1 1 [⟨Ao,k,co⟩] rfl (Zgh l4) rfl a6 m4.size ?_;intro D0 H5 B1 g8 y8;have i0:=b5.app c3 (r:=⟨Ao,k,co⟩) rfl k7.out c9.out (λk' e=>Ql (c7.out k' e) c8.out) b2 B1 g8 y8;have A8:=Kept.grownC m4 g8 (λk' hk=>b5.1.1.1.row_ge k' hk);have k4:=b5.far c3 g8 v5;refine hK.out _ _ (λ_=>i0.cells) ?_;clear hK K
        try simp only[Qa,Zg7,Zgl,Zg1]
        refine Zgm 1 [10] rfl Gi i0.cells ?_
        (refine tkA ?_;try simp only[Qa,Zg7,Zgl,Zg1,Gr,Gq,Gp])
        refine tk0 ?_;have EL:=i0;have KL:=A8;have bL:=k4;obtain⟨vL,rfl⟩:∃ x:Value,x=D0:=⟨_,rfl⟩;obtain⟨gL,rfl⟩:∃ x:Nat,x=υ7:=⟨_,rfl⟩;obtain⟨WL,rfl⟩:=Gy H5
      rotate_left 2
      focus
       obtain⟨k5,j3⟩:=Gz (X0.alloc (.cells #[.bool ln,.slice lA lk lc,.bool lm,.slice lB lj ld] 73));obtain⟨t5,h0⟩:=Gz X0.heap.size;have l5:Below X0.heap.size X0 k5:=by rw[<- j3];exact(Qb _ _).alloc (Qd _) _
       have w7:Blk k5 t5 73 #[.bool ln,.slice lA lk lc,.bool lm,.slice lB lj ld]:=by rw[<- j3,<- h0];exact Qi _ _ _
       have q7:=hE.below l5;have y6:=x3.below l5;go_simp;(try rw[j3]);(try rw[h0]);refine hK.out _ _ (λ_=>q7.cells) ?_;clear hK K j3 h0
       try simp only[Qa,Zg7,Zgl,Zg1]
       refine wpAnyL_o 3 λK hK=>?_;obtain⟨G1,j1⟩:=Gz (k5.alloc (.cells #[.slice Ao k co] 97));obtain⟨t7,i4⟩:=Gz k5.heap.size;have h5:Below k5.heap.size k5 G1:=by rw[<- j1];exact(Qb _ _).alloc (Qd _) _
       have A7:Blk G1 t7 97 #[.slice Ao k co]:=by rw[<- j1,<- i4];exact Qi _ _ _
       have b6:=q7.below h5;have q9:=y6.below h5;have k3:=Zc h5 w7;go_simp;(try rw[j1]);(try rw[i4]);refine hK.out _ _ (λ_=>b6.cells) ?_;clear hK K j1 i4
       try simp only[Qa,Zg7,Zgl,Zg1]
       refine wpAnyL_o 4 λK hK=>?_;rw[Gx Ge];refine Zax _ (.tmp 90) (.tmp 92) 96 rfl W0.heap.size 97 iS Tryz.underlying96 ki k6 k8 k9 (.slice A1 k c1) rs rfl b6.1.1.1 _ (some ⟨t7,0,none⟩) 1 1 [⟨Ao,k,co⟩] rfl (Zgh A7) rfl a6 q9.size ?_;intro E6 G8 w9 i2 v9;have i8:=b6.app c3 (r:=⟨Ao,k,co⟩) rfl k7.out c9.out (λk' e=>Ql (c7.out k' e) c8.out) b2 w9 i2 v9;have x8:=Kept.grownC q9 i2 (λk' hk=>b6.1.1.1.row_ge k' hk);have d4:=b6.far c3 i2 k3;refine hK.out _ _ (λ_=>i8.cells) ?_;clear hK K
       try simp only[Qa,Zg7,Zgl,Zg1]
       refine Zgm 1 [10] rfl Gi i8.cells ?_
       (refine tkA ?_;try simp only[Qa,Zg7,Zgl,Zg1,Gr,Gq,Gp])
       refine tk0 ?_;have EL:=i8;have KL:=x8;have bL:=d4;obtain⟨vL,rfl⟩:∃ x:Value,x=E6:=⟨_,rfl⟩;obtain⟨gL,rfl⟩:∃ x:Nat,x=t5:=⟨_,rfl⟩;obtain⟨WL,rfl⟩:=Gy G8
     all_goals
      refine wpAnyL_o 9 λK hK=>?_;rw[Gx Ge];refine Zbq _ (.tmp 95) (.tmp 97) 97 rfl W0.heap.size 73 iN Tryz.underlying97 hi F8 D9 F3 (.slice A2 k c2) _ rfl EL.1.2.1 _ (some ⟨gL,0,none⟩) 1 1 [⟨ln,lA,lk,lc,lm,lB,lj,ld,dQ AQ k⟩] rfl (Zcw _ bL) rfl (by intro e he;rw[QC]at he;subst he;exact EL.2.2.1) A3 KL.size ?_;intro G4 h7 C1 m9 x9 C0;obtain⟨f1,f3⟩:=EL.app c3 b2 C1 m9 x9 C0;have w0:=Kept.grownC KL m9 (λk' hk=>EL.1.2.1.row_ge k' hk);refine hK.out _ _ (λ_=>⟨by rw[f3.cell];rfl,by rw[f3.cell];rfl⟩) ?_;clear hK K
      try simp only[Qa,Zg7,Zgl,Zg1]
      obtain⟨a7,a9,e7,-⟩:=f1.1.mflA;obtain⟨b1,b3,e8,-⟩:=f1.2.1.fl;rw[<- Zm5,Zfx]at e7;subst e7;obtain rfl:G4=.slice b1 (k+1) b3:=by rw[e8];congr 1;simp[Zjw]
      clear e8;have f6:Kept (λk=>k=gx) h7 ((h7.setCell ⟨gx,0,none⟩ (.slice a7 (k+1) a9)).setCell ⟨gx,1,none⟩ (.slice b1 (k+1) b3)):=Kept.set_ (G:=λk=>k=gx) (Kept.set_ (G:=λk=>k=gx) (Qk _ _) (p:=⟨gx,0,none⟩) (.inl rfl) _) (p:=⟨gx,1,none⟩) (.inl rfl) _;have f5:Blk (h7.setCell ⟨gx,0,none⟩ (.slice a7 (k+1) a9)) gx 99 #[.slice a7 (k+1) a9,.slice A2 k c2]:=f3.set_ 0 _;have f7:Blk ((h7.setCell ⟨gx,0,none⟩ (.slice a7 (k+1) a9)).setCell ⟨gx,1,none⟩ (.slice b1 (k+1) b3)) gx 99 #[.slice a7 (k+1) a9,.slice b1 (k+1) b3]:=f5.set_ 1 _;have f8:=f1.box f3 (Zk2 _ _ _ _ _ _) b2 f6;have υ0:h7.cell? ⟨gx,0,none⟩=some (.slice A1 k c1):=by rw[f3.cell];rfl
      have H6:=f3.frozen 0;have υ1:(h7.setCell ⟨gx,0,none⟩ (.slice a7 (k+1) a9)).cell? ⟨gx,1,none⟩=some (.slice A2 k c2):=by rw[f5.cell];rfl
      have G7:=f5.frozen 1;have s5:=w0.trans f6;obtain⟨Z9,z8⟩:∃ Z,((h7.setCell ⟨gx,0,none⟩ (.slice a7 (k+1) a9)).setCell ⟨gx,1,none⟩ (.slice b1 (k+1) b3))=Z:=⟨_,rfl⟩;rw[z8]at f7 f8 s5;replace f7:=Za f7;replace f8:=Za f8;replace s5:=Za s5;clear f1 f3 f6;refine Zv (i:=11) rfl Gi Gi (λK hK=>?_);go_simp;refine hK.out _ _ ?_;clear hK K
      try simp only[Qa,Zg7,Zgl,Zg1]
      (refine Zk (i:=12) (v:=?_) rfl Gi Gi Gi Gi (Or.inl ⟨by kernel_rfl,?_⟩) (λhno=>absurd hno Gj) ?_;rotate_left;(· intro W2 _;go_simp;try with_reducible rfl);try simp only[Qa,Zg7,Zgl,Zg1,Gr,Gq,Gp])
      refine Zv (i:=13) rfl Gi Gi (λK hK=>?_);go_simp;(try rw[z8]);refine hK.out _ _ ?_;clear hK K
      try simp only[Qa,Zg7,Zgl,Zg1]
      refine wpAnyL_fin ?_;clear z8 υ0 H6 υ1 G7 f5;go_wp2_with fail
      go_roundg (n-(k+1))
      case measure=>omega
      case rel=>exact⟨k+1,_,_,rs ++ [⟨Ao,k,co⟩],by omega,by go_num,f7.out,by rw[Zm5,Z1o];exact f8.out,y9,s5.out⟩
    | succ t2 =>
     obtain rfl:t2=i-(k+1):=Gk;have J:k<i:=Gk;have t2:decide ((k:Int)<(i:Int))=true:=Gv Gk;have bki:(k:Int)<(i:Int):=Gk;have bkn:(k:Int)<(n:Int):=Gk;obtain⟨yn,yA,yk,yc,ym,yB,yj,yd,⟨r0,r1,r2,r3⟩,hY⟩:=(hR.out.below f9.out).atS (show k<n by omega);rw[υ4.out]at hY;obtain⟨V3,G9,o9,p3,s3⟩:=Zak wk 73 #[.bool false,.slice none 0 0,.bool false,.slice none 0 0];obtain⟨gs,n1⟩:=Gz wk.heap.size;rw[n1]at p3 s3;obtain⟨υ0,υ1,υ2,υ3,v0,v1,v2,v3⟩:=p3.four;obtain⟨W4,E7,p4,E2,s4⟩:=Zav yn yA yk yc ym yB yj yd p3;have r6:Below wk.heap.size wk W4:=o9.trans (E2.to_below (λk e=>by omega) o9.size);have H7:Hid (W4.heap.size=gs+1):=Za (by rw[s4,s3]);have C6:=Za (hY.below r6);have J9:Hid (gl<gs):=Za (by have:=b4.lt;omega);replace r6:=Za r6;replace a0:=Za a0;replace c5:=Za c5;replace b4:=Za b4;replace c0:=Za c0;replace p4:=Za p4;clear hY o9 E2 s3 s4 b9;go_wp2_with fail;(try rw[n1]);(try rw[E7]);clear υ0 υ1 υ2 υ3 v0 v1 v2 v3 p3 G9 E7 r0 r1 r2 r3 F9 C9 E1 G2 l0 l1 l2 l3 m0 m1 m2 m3;replace n1:=Za n1
     go_loopg [32] k (λt jv wj=>∃ (j:Nat) (sn:Bool) (sA:Option Addr) (sk sc:Nat) (sm:Bool) (sB:Option Addr) (sj sd:Nat),j+t=k/\jv=.int .i64 j/\Blk wj gs 73 #[.bool sn,.slice sA sk sc,.bool sm,.slice sB sj sd]/\Hid (Fr wj sn sA sk sc sm sB sj sd (Zr AQ j i k))/\Kept (λg=>g=gs) W4 wj)
     case atStart=>exact⟨0,_,_,_,_,_,_,_,_,by omega,rfl,p4.out,C6,Qk _ _⟩
     case round =>
      clear p4 C6;obtain⟨wj,rfl⟩:=Gy wr;obtain⟨j,sn,sA,sk,sc,sm,sB,sj,sd,L1,rfl,z4,hs,B6⟩:=hrel;have K1:=H7.out;have K6:=n1.out;have q4:Hid (Below wk.heap.size wk wj):=Za (r6.out.trans (B6.to_below (λk e=>by omega) Gk));have d6:Hid (Below wi.heap.size wi wj):=Za (Gs f9.out q4.out);have l9:=Zc d6.out f.out;have C2:wj.cell? ⟨gx,0,none⟩=some (.slice A1 i c1):=by rw[l9.cell];rfl
      have x6:wj.cell? ⟨gx,1,none⟩=some (.slice A2 i c2):=by rw[l9.cell];rfl
      obtain⟨s0,s1,s2,s3,y0,y1,y2,y3⟩:=z4.four;cases gk with
      | zero =>
       obtain rfl:j=k:=Gk;have t3:decide ((j:Int)<(j:Int))=false:=Gh;obtain⟨gd,C,dn,dA,dk,dc,dm,dB,dj,dd,rfl,⟨d0,d1,d2,d3⟩,hD⟩:=(d7.out.below d6.out).at_ J;rw[Zqc J]at hD;replace hD:=Za hD;go_wp2_with fail;obtain⟨X0,U⟩:=Gz wj.drew;have V:Below wj.heap.size wj X0:=by rw[<- U];exact Zf (Qb _ _) 1
       have u:Hid (∀ wx,Below wj.heap.size wj wx->wx.cell? ⟨gs,0,none⟩=some (.bool sn)/\wx.cell? ⟨gs,1,none⟩=some (.slice sA sk sc)/\wx.cell? ⟨gs,2,none⟩=some (.bool sm)/\wx.cell? ⟨gs,3,none⟩=some (.slice sB sj sd)/\wx.cell? ⟨gx,1,none⟩=some (.slice (some ⟨gd,C,none⟩) i c2)/\wx.cell? ⟨gd,C+j*4,none⟩=some (.bool dn)/\wx.cell? ⟨gd,C+j*4+1,none⟩=some (.slice dA dk dc)/\wx.cell? ⟨gd,C+j*4+2,none⟩=some (.bool dm)/\wx.cell? ⟨gd,C+j*4+3,none⟩=some (.slice dB dj dd)):=Za (λwx f=>⟨Zb f s0,Zb f s1,Zb f s2,Zb f s3,Zb f x6,Zb f d0,Zb f d1,Zb f d2,Zb f d3⟩);refine wp_heldS [] hmx u (by rw[U];exact V) (λhxs=>?_);rw[U];refine Zj5 7 [0,1,2,3,4,5,6] rfl Gi (u.out _ V) ?_
       iterate 7 (refine tkA ?_;try simp only[Qa,Zg7,Zgl,Zg1,Gr,Gq,Gp])
       refine tk0 ?_;refine wpAnyL_o 7 λK hK=>?_;go_simp;refine(Zso sn sm dn dm sA sB dA dB sk sc sj sd dk dc dj dd _ _ X0 (hs.out.below V) (hD.out.below V) (fac_q hF.out a1 J y.out).1 (fac_q hF.out a1 J y.out).2.1 (fac_q hF.out a1 J y.out).2.2).mono ?_;rintro e w5 ⟨a5,an,aA,ak,ac,am,aB,aj,ad,rfl,hT⟩;have a3:=Gs V a5;refine hK.out _ _ (λ_=>u.out _ a3) ?_;clear hK K
       try simp only[Qa,Zg7,Zgl,Zg1]
       obtain⟨Y1,T⟩:=Gz (w5.alloc (.cells #[.bool an,.slice aA ak ac,.bool am,.slice aB aj ad] 73));obtain⟨g5,a2⟩:=Gz w5.heap.size;have d5:Below w5.heap.size w5 Y1:=by rw[<- T];exact(Qb _ _).alloc (Qd _) _
       have d8:Blk Y1 g5 73 #[.bool an,.slice aA ak ac,.bool am,.slice aB aj ad]:=by rw[<- T,<- a2];exact Qi _ _ _
       have O:Below wj.heap.size wj Y1:=Gs a3 d5;refine wpAnyL_o 8 λK hK=>?_;go_simp;(try rw[T]);(try rw[a2]);refine hK.out _ _ (λ_=>u.out _ O) ?_;clear hK K T a2
       try simp only[Qa,Zg7,Zgl,Zg1]
       have E8:=hT.below d5;have a8:Below wk.heap.size wk Y1:=Gs q4.out O;have B5:=a0.out.kept a8;have D2:W2.heap.size<=Y1.heap.size:=Qe c0.out.size a8.size;have l8:(Zjj AQ i j).length+1<=1000:=by rw[Zf5];omega
       refine wpAnyL_o 9 λK hK=>?_;rw[Gx Ge];refine Zbq _ (.tmp 57) (.tmp 65) 97 rfl W2.heap.size 73 iN Tryz.underlying97 hi F8 D9 F3 (.slice Ao j co) _ rfl B5 _ (some ⟨g5,0,none⟩) 1 1 [⟨an,aA,ak,ac,am,aB,aj,ad,Zr AQ j i j/dQ AQ j⟩] rfl (Zcw _ d8) rfl (by intro e he;rw[QC]at he;subst he;exact E8) l8 D2 ?_;intro vY Y2 C4 e5 x7 J1;have g2:OwnF 73 Y2 W2.heap.size vY (Zjj AQ i (j+1)):=by rw[Zy0];exact C4
       obtain⟨Ap,cp,e4,n6⟩:=g2.fl;rw[Zf5]at e4 n6;subst e4;have g6:=B5.row_ge;have n7:=a0.out.blt;have h6:Hid (Kept (λg=>g=gl) W2 Y1):=Za (c0.out.below a8);have t0:Hid (Kept (λg=>g=gl) W2 Y2):=Za ⟨e5.os.trans h6.out.os,e5.tape.trans h6.out.tape,e5.output.trans h6.out.output,Qe h6.out.size e5.size,λg hg hne=>(e5.block g (QD hg h6.out.size) (λe=>by have:=g6 g (by first|exact e|exact e.symm);omega)).trans (h6.out.block g hg hne)⟩;have t8:Hid (Blk Y2 gl 73 #[.bool ln,.slice lA lk lc,.bool lm,.slice lB lj ld]):=Za ((e5.block gl (QD b4.out.lt a8.size) (λe=>by have:=g6 gl (by first|exact e|exact e.symm);omega)).trans (Zc a8 b4.out));have G6:Hid (Fr Y2 ln lA lk lc lm lB lj ld (Zr AQ j i i)):=Za ⟨⟨hl.out.1.1,hl.out.1.2.1,x7 _ _ _ _ (hl.out.below a8).1.2.2⟩,⟨hl.out.2.1,hl.out.2.2.1,x7 _ _ _ _ (hl.out.below a8).2.2.2⟩⟩;have s9:Hid (Below wi.heap.size wi Y2):=Za (n9.out.trans (t0.out.to_below (λg e=>by omega) Gk));obtain⟨_,_,_,_,_,_,_,_,⟨D5,-⟩,-⟩:=d7.out.atS J;have I0:gd<wi.heap.size:=Zn D5
       have I:∀ (g o:Nat) (v:Value),(∀ k',(Value.slice Ao j co).ownBlock=some k'->k'≠g)->Y1.cell? ⟨g,o,none⟩=some v->Y2.cell? ⟨g,o,none⟩=some v:=λg o v hne hv=>by
        rw[<- hv];exact World.cell?_of_block (e5.block g (Zn hv) (λe=>hne g (by first|exact e|exact e.symm) rfl))
       have n3:Y2.cell? ⟨gs,0,none⟩=some (.bool sn)/\Y2.cell? ⟨gs,1,none⟩=some (.slice sA sk sc)/\Y2.cell? ⟨gs,2,none⟩=some (.bool sm)/\Y2.cell? ⟨gs,3,none⟩=some (.slice sB sj sd)/\Y2.cell? ⟨gx,1,none⟩=some (.slice (some ⟨gd,C,none⟩) i c2)/\Y2.cell? ⟨gd,C+j*4,none⟩=some (.bool dn)/\Y2.cell? ⟨gd,C+j*4+1,none⟩=some (.slice dA dk dc)/\Y2.cell? ⟨gd,C+j*4+2,none⟩=some (.bool dm)/\Y2.cell? ⟨gd,C+j*4+3,none⟩=some (.slice dB dj dd):=by
        obtain⟨p0,p1,p2,p3,p4,p5,p6,p7,p8⟩:=u.out _ O;refine⟨I _ _ _ (λk' e=>by have:=n7 k' e;omega) p0,I _ _ _ (λk' e=>by have:=n7 k' e;omega) p1,I _ _ _ (λk' e=>by have:=n7 k' e;omega) p2,I _ _ _ (λk' e=>by have:=n7 k' e;omega) p3,I _ _ _ (λk' e=>by have:=g6 k' e;omega) p4,I _ _ _ (λk' e=>by have:=g6 k' e;omega) p5,I _ _ _ (λk' e=>by have:=g6 k' e;omega) p6,I _ _ _ (λk' e=>by have:=g6 k' e;omega) p7,I _ _ _ (λk' e=>by have:=g6 k' e;omega) p8⟩
       refine hK.out _ _ (λ_=>n3) ?_;clear hK K D5 I
       try simp only[Qa,Zg7,Zgl,Zg1]
       refine Zgm 1 [10] rfl Gi n3 ?_
       (refine tkA ?_;try simp only[Qa,Zg7,Zgl,Zg1,Gr,Gq,Gp])
       refine tk0 ?_;refine wpAnyL_fin ?_;replace g2:=Za g2;replace n6:=Za n6;clear n3 I0 u hxs V O a3 d8 d5 U C4 e5 x7 J1 g6 n7 B5 E8 hT a8 h6 D2 l8 s0 s1 s2 s3 y0 y1 y2 y3 C2 x6 d0 d1 d2 d3 hD z4 hs B6 l9 q4 d6 hl b4 c0 a0 c5;obtain⟨l0,l1,l2,l3,-⟩:=t8.out.four;have G0:=Zc s9.out f.out;have H0:Y2.cell? ⟨gx,1,none⟩=some (.slice (some ⟨gd,C,none⟩) i c2):=by rw[G0.cell];rfl
       obtain⟨dn,dA,dk,dc,dm,dB,dj,dd,⟨d0,d1,d2,d3⟩,hD⟩:=(d7.out.below s9.out).atS J;rw[Zqc J]at hD;replace hD:=Za hD;obtain⟨go,oo,on_,oA,ok,oc,om,oB,oj,od,rfl,⟨o0,o1,o2,o3⟩,hO⟩:=n6.out.at_ (Qx j);rw[Zly (Qx j)]at hO;replace hO:=Za hO;have x4:=n6.out.cap;unfold maxLen at x4;have bjs:(j:Int)<((j:Int)+1):=Gk;have K4:(j:Int)<((j+1:Nat):Int):=Gk;have bji:(j:Int)<(i:Int):=Gk;go_wp2_with fail;obtain⟨X0,U⟩:=Gz Y2.drew;have V:Below Y2.heap.size Y2 X0:=by rw[<- U];exact Zf (Qb _ _) 1
       have u:Hid (∀ wx,Below Y2.heap.size Y2 wx->wx.cell? ⟨gl,0,none⟩=some (.bool ln)/\wx.cell? ⟨gl,1,none⟩=some (.slice lA lk lc)/\wx.cell? ⟨gl,2,none⟩=some (.bool lm)/\wx.cell? ⟨gl,3,none⟩=some (.slice lB lj ld)/\wx.cell? ⟨go,oo+j*4,none⟩=some (.bool on_)/\wx.cell? ⟨go,oo+j*4+1,none⟩=some (.slice oA ok oc)/\wx.cell? ⟨go,oo+j*4+2,none⟩=some (.bool om)/\wx.cell? ⟨go,oo+j*4+3,none⟩=some (.slice oB oj od)/\wx.cell? ⟨gx,1,none⟩=some (.slice (some ⟨gd,C,none⟩) i c2)/\wx.cell? ⟨gd,C+j*4,none⟩=some (.bool dn)/\wx.cell? ⟨gd,C+j*4+1,none⟩=some (.slice dA dk dc)/\wx.cell? ⟨gd,C+j*4+2,none⟩=some (.bool dm)/\wx.cell? ⟨gd,C+j*4+3,none⟩=some (.slice dB dj dd)):=Za (λwx f=>⟨Zb f l0,Zb f l1,Zb f l2,Zb f l3,Zb f o0,Zb f o1,Zb f o2,Zb f o3,Zb f H0,Zb f d0,Zb f d1,Zb f d2,Zb f d3⟩);refine wp_heldS [17] hmx u (by rw[U];exact V) (λhxs=>?_);rw[U];refine Zj5 14 [0,1,2,3,4,5,6,7,8,9,10,11,12,13] rfl Gi (u.out _ V) ?_
       iterate 14 (refine tkA ?_;try simp only[Qa,Zg7,Zgl,Zg1,Gr,Gq,Gp])
       refine tk0 ?_;obtain⟨Y1,T⟩:=Gz (X0.alloc (.cells #[.bool on_,.slice oA ok oc,.bool om,.slice oB oj od,.bool dn,.slice dA dk dc,.bool dm,.slice dB dj dd] 73));obtain⟨g5,a2⟩:=Gz X0.heap.size;have d5:Below X0.heap.size X0 Y1:=by rw[<- T];exact(Qb _ _).alloc (Qd _) _
       have d8:Blk Y1 g5 73 #[.bool on_,.slice oA ok oc,.bool om,.slice oB oj od,.bool dn,.slice dA dk dc,.bool dm,.slice dB dj dd]:=by rw[<- T,<- a2];exact Qi _ _ _
       have O:Below Y2.heap.size Y2 Y1:=Gs V d5;refine wpAnyL_o 14 λK hK=>?_;go_simp;(try rw[T]);(try rw[a2]);refine hK.out _ _ (λ_=>u.out _ O) ?_;clear hK K T a2
       try simp only[Qa,Zg7,Zgl,Zg1]
       refine wpAnyL_o 15 λK hK=>?_;go_simp;refine(Zc2 on_ oA ok oc om oB oj od (lQ AQ i j) (some ⟨g5,0,none⟩) 2 2 [lQ AQ i j,dQ AQ j] Y1 (hO.out.below O) (FL.pair2 d8 (hO.out.below O) (hD.out.below O)) Gk (Zmb hF.out a1 J y.out).1 (Zmb hF.out a1 J y.out).2).mono ?_;rintro e w5 ⟨a5,an,aA,ak,ac,am,aB,aj,ad,rfl,hT⟩;have a3:=Gs O a5;refine hK.out _ _ (λ_=>u.out _ a3) ?_;clear hK K
       try simp only[Qa,Zg7,Zgl,Zg1]
       refine wpAnyL_o 16 λK hK=>?_;go_simp;refine(Zez ln lm an am lA lB aA aB lk lc lj ld ak ac aj ad _ _ w5 (G6.out.below a3) hT (Zwi hF.out a1 J y.out).1 (Zwi hF.out a1 J y.out).2).mono ?_;rintro e w6 ⟨y4,bn,bA,bk,bc,bm,bB,bj,bd,rfl,hU⟩;have g7:=Gs a3 y4;refine hK.out _ _ (λ_=>u.out _ g7) ?_;clear hK K
       try simp only[Qa,Zg7,Zgl,Zg1]
       have b0:Below Y2.heap.size Y2 w6:=g7;have c4:=Zc b0 t8.out;obtain⟨f0,f1,f2,f3,w1,y7,v8,z9⟩:=c4.four;obtain⟨W7,p9,p7,e9,s7⟩:=Zav bn bA bk bc bm bB bj bd c4;have n4:=Za (hU.keptN e9 c4 (Za9 _ _ _ _ _ _ _ _));have A9:=Za ((g2.out.kept b0).keptG c4 (Za9 _ _ _ _ _ _ _ _) (λe=>by have h8:=g2.out.row_ge gl e;omega) e9);have z7:Hid (Kept (λg=>g=gl) W2 W7):=Za ((t0.out.below b0).trans e9);replace p7:=Za p7;clear e9 hU hT;refine Zv (i:=17) rfl Gi Gi (λK hK=>?_);go_simp;(try rw[p9]);refine hK.out _ _ ?_;clear hK K
       try simp only[Qa,Zg7,Zgl,Zg1]
       refine wpAnyL_fin ?_;clear p9 f0 f1 f2 f3 w1 y7 v8 z9 c4 u hxs V O a3 g7 b0 d8 d5 U
       have z6:Hid (Fr W7 bn bA bk bc bm bB bj bd (Zr AQ (j+1) i i)):=Za (by
        rw[Zmh hF.out.sym J (Qd _) a1 (y.out.ne J)];exact n4.out)
       have G5:Hid (OwnF 73 W7 W2.heap.size (.slice (some ⟨go,oo,none⟩) (j+1) cp) (Zjj AQ i (j+1))):=Za (A9.out);clear n4;go_wp2_with fail
       go_roundg (i-(j+1))
       case measure=>omega
       case rel=>exact⟨j+1,_,_,_,_,_,_,_,_,by omega,by go_num,G5.out,p7.out,z6,z7.out⟩
      | succ t3 =>
       obtain rfl:t3=k-(j+1):=Gk;have g4:j<k:=Gk;have t3:decide ((j:Int)<(k:Int))=true:=Gv Gk;have bjk:(j:Int)<(k:Int):=Gk;have bji:(j:Int)<(i:Int):=Gk;have K5:(k:Int)<(i:Int):=Gk;obtain⟨go,oo,on_,oA,ok,oc,om,oB,oj,od,rfl,⟨o0,o1,o2,o3⟩,hO⟩:=(c5.out.below q4.out).at_ g4;obtain⟨g1,F6,A',n',c',rfl,ck,k1⟩:=(o8.out.below d6.out).at_ J;rw[Zmu J]at k1;have D6:n'=k:=by rw[<- k1.len,Zf5]
       rw[D6]at k1 ck;clear D6 n';have I6:=k1.cap;unfold maxLen at I6;obtain⟨gq,oq,qn,qA,qk,qc,qm,qB,qj,qd,rfl,⟨q0,q1,q2,q3⟩,hQ⟩:=k1.at_ g4;obtain⟨gd,C,dn,dA,dk,dc,dm,dB,dj,dd,rfl,⟨d0,d1,d2,d3⟩,hD⟩:=(d7.out.below d6.out).at_ (show j<i by omega);rw[Zly g4]at hO hQ;rw[Zqc (show j<i by omega)]at hD;replace hO:=Za hO;replace hQ:=Za hQ;replace hD:=Za hD;clear k1;go_wp2_with fail;obtain⟨X0,U⟩:=Gz wj.drew;have V:Below wj.heap.size wj X0:=by rw[<- U];exact Zf (Qb _ _) 1
       have u:Hid (∀ wx,Below wj.heap.size wj wx->wx.cell? ⟨gs,0,none⟩=some (.bool sn)/\wx.cell? ⟨gs,1,none⟩=some (.slice sA sk sc)/\wx.cell? ⟨gs,2,none⟩=some (.bool sm)/\wx.cell? ⟨gs,3,none⟩=some (.slice sB sj sd)/\wx.cell? ⟨go,oo+j*4,none⟩=some (.bool on_)/\wx.cell? ⟨go,oo+j*4+1,none⟩=some (.slice oA ok oc)/\wx.cell? ⟨go,oo+j*4+2,none⟩=some (.bool om)/\wx.cell? ⟨go,oo+j*4+3,none⟩=some (.slice oB oj od)/\wx.cell? ⟨gx,0,none⟩=some (.slice (some ⟨g1,F6,none⟩) i c1)/\wx.cell? ⟨g1,F6+k,none⟩=some (.slice (some ⟨gq,oq,none⟩) k c')/\wx.cell? ⟨gq,oq+j*4,none⟩=some (.bool qn)/\wx.cell? ⟨gq,oq+j*4+1,none⟩=some (.slice qA qk qc)/\wx.cell? ⟨gq,oq+j*4+2,none⟩=some (.bool qm)/\wx.cell? ⟨gq,oq+j*4+3,none⟩=some (.slice qB qj qd)/\wx.cell? ⟨gx,1,none⟩=some (.slice (some ⟨gd,C,none⟩) i c2)/\wx.cell? ⟨gd,C+j*4,none⟩=some (.bool dn)/\wx.cell? ⟨gd,C+j*4+1,none⟩=some (.slice dA dk dc)/\wx.cell? ⟨gd,C+j*4+2,none⟩=some (.bool dm)/\wx.cell? ⟨gd,C+j*4+3,none⟩=some (.slice dB dj dd)):=Za (λwx f=>⟨Zb f s0,Zb f s1,Zb f s2,Zb f s3,Zb f o0,Zb f o1,Zb f o2,Zb f o3,Zb f C2,Zb f ck,Zb f q0,Zb f q1,Zb f q2,Zb f q3,Zb f x6,Zb f d0,Zb f d1,Zb f d2,Zb f d3⟩);refine wp_heldS [21] hmx u (by rw[U];exact V) (λhxs=>?_);rw[U];refine Zj5 18 [0,1,2,3,4,5,6,7,8,9,10,11,12,13,14,15,16,17] rfl Gi (u.out _ V) ?_
       iterate 18 (refine tkA ?_;try simp only[Qa,Zg7,Zgl,Zg1,Gr,Gq,Gp])
       refine tk0 ?_;obtain⟨Y1,T⟩:=Gz (X0.alloc (.cells #[.bool qn,.slice qA qk qc,.bool qm,.slice qB qj qd,.bool dn,.slice dA dk dc,.bool dm,.slice dB dj dd] 73));obtain⟨g5,a2⟩:=Gz X0.heap.size;have d5:Below X0.heap.size X0 Y1:=by rw[<- T];exact(Qb _ _).alloc (Qd _) _
       have d8:Blk Y1 g5 73 #[.bool qn,.slice qA qk qc,.bool qm,.slice qB qj qd,.bool dn,.slice dA dk dc,.bool dm,.slice dB dj dd]:=by rw[<- T,<- a2];exact Qi _ _ _
       have O:Below wj.heap.size wj Y1:=Gs V d5;refine wpAnyL_o 18 λK hK=>?_;go_simp;(try rw[T]);(try rw[a2]);refine hK.out _ _ (λ_=>u.out _ O) ?_;clear hK K T a2
       try simp only[Qa,Zg7,Zgl,Zg1]
       refine wpAnyL_o 19 λK hK=>?_;go_simp;refine(Zc2 on_ oA ok oc om oB oj od (lQ AQ i j) (some ⟨g5,0,none⟩) 2 2 [lQ AQ k j,dQ AQ j] Y1 (hO.out.below O) (FL.pair2 d8 (hQ.out.below O) (hD.out.below O)) Gk (Zpa hF.out a1 J g4 y.out).1 (Zpa hF.out a1 J g4 y.out).2).mono ?_;rintro e w5 ⟨a5,an,aA,ak,ac,am,aB,aj,ad,rfl,hT⟩;have a3:=Gs O a5;refine hK.out _ _ (λ_=>u.out _ a3) ?_;clear hK K
       try simp only[Qa,Zg7,Zgl,Zg1]
       refine wpAnyL_o 20 λK hK=>?_;go_simp;refine(Zez sn sm an am sA sB aA aB sk sc sj sd ak ac aj ad _ _ w5 (hs.out.below a3) hT (Zzd hF.out a1 J g4 y.out).1 (Zzd hF.out a1 J g4 y.out).2).mono ?_;rintro e w6 ⟨y4,bn,bA,bk,bc,bm,bB,bj,bd,rfl,hU⟩;have g7:=Gs a3 y4;refine hK.out _ _ (λ_=>u.out _ g7) ?_;clear hK K
       try simp only[Qa,Zg7,Zgl,Zg1]
       have b0:Below wj.heap.size wj w6:=g7;have c4:=Zc b0 z4;obtain⟨f0,f1,f2,f3,w1,y7,v8,z9⟩:=c4.four;obtain⟨W7,p9,p7,e9,s7⟩:=Zav bn bA bk bc bm bB bj bd c4;have n4:=Za (hU.keptN e9 c4 (Za9 _ _ _ _ _ _ _ _));have z7:Hid (Kept (λg=>g=gs) W4 W7):=Za ((B6.below b0).trans e9);replace p7:=Za p7;clear e9 hU hT;refine Zv (i:=21) rfl Gi Gi (λK hK=>?_);go_simp;(try rw[p9]);refine hK.out _ _ ?_;clear hK K
       try simp only[Qa,Zg7,Zgl,Zg1]
       refine wpAnyL_fin ?_;clear p9 f0 f1 f2 f3 w1 y7 v8 z9 c4 u hxs V O a3 g7 b0 d8 d5 U
       have z6:Hid (Fr W7 bn bA bk bc bm bB bj bd (Zr AQ (j+1) i k)):=Za (by
        rw[Zmh hF.out.sym g4 Gk a1 (y.out.ne Gk)];exact n4.out)
       clear n4;go_wp2_with fail
       go_roundg (k-(j+1))
       case measure=>omega
       case rel=>exact⟨j+1,_,_,_,_,_,_,_,_,by omega,by go_num,p7.out,z6,z7.out⟩
def LookPost(rs:List RX)(w:World)(e:Ending)(w':World):Prop:=
 Below w.heap.size w w'/\((Zbg rs=0/\∃ v1 v2 L,e=.returned (.agg #[v1,v2])/\FacM 97 73 w' w.heap.size v1 v2 L (Zha (Zi (qM rs)) rs.length) (dsL (Zi (qM rs)) rs.length)) \/
  (Zbg rs≠0/\e=.panicked [{ v:=.iface 117 (.agg #[.int .i64 (Zbg rs)]),recovered:=false }]))
theorem LookPost.fall{rs:List RX}{w w':World}{E:Int}(hb:Below w.heap.size w w')(h:Zbg rs=E)(h0:E≠0):LookPost rs w (.panicked [{ v:=.iface 117 (.agg #[.int .i64 E]),recovered:=false }]) w':=by
 subst h;exact⟨hb,.inr ⟨h0,rfl⟩⟩
theorem IW{G:Prop}(h:G:=by
 go_wp2_with fail
 go_roundg (j-(k+1))
 case measure=>omega
 case rel=>exact⟨k+1,by omega,by go_num,eE,aK.out⟩):G:=h
theorem Ik{G:Prop}(h:G:=by
 rintro e w6 ⟨rfl,rfl⟩;go_wp2_with fail;exact⟨rfl,LookPost.fall (Gs aw ae) hE.out Gj⟩):G:=h
theorem Ir{G:Prop}(h:G:=by
 go_wp2_with fail
 go_roundg (n-(i+1))
 case measure=>omega
 case rel=>exact⟨i+1,by omega,by go_num,az,Gs bV aa⟩):G:=h
theorem Zk3(A:Option Addr)(n c:Nat)(rs:List RX)(w:World)(h:MXL w A n c rs)(hF:FacC rs) :
    Calls Tryz.prog 64 #[.slice A n c] w (LookPost rs w):=by
 have hmx:=Gt;have hl:=Za h.1;have e6:=h.2.1;have d3:=h.2.2.1;unfold maxLen at d3;obtain⟨W0,a1,aw,q0,s0⟩:=Zak w 99 #[.slice none 0 0,.slice none 0 0];obtain⟨gx,Y⟩:=Gz w.heap.size;by_cases h6:6<n
 ·have t1:decide ((n:Int)<=6)=false:=Gu Gk
  have hE:Hid (Zbg rs=4):=Za (Zfw (by unfold long6;rw[hl.out,Gv h6];rfl));clear h;go_in;go_wp2_with fail;(try rw[a1]);refine(Zbl 4 W0).mono ?_;rintro e w6 ⟨rfl,rfl⟩;go_wp2_with fail;exact⟨rfl,LookPost.fall aw hE.out Gj⟩
 have t1:decide ((n:Int)<=6)=true:=Gv Gk;obtain⟨x,hx⟩:=Gz (rs.any RX.long6);have T:long6 rs=x:=by unfold long6;rw[hl.out,Gu h6,hx];rfl
 have hC:=Za (λW1 (hb:Below w.heap.size w W1)=>Zvv A n c rs W1 (h.below hb) x hx);replace hx:=Za hx;replace T:=Za T;cases x
 case true =>
  have hE:Hid (Zbg rs=4):=Za (Zfw T.out);clear h;go_in;go_wp2_with fail;(try rw[a1]);refine(hC.out _ aw).mono ?_;rintro e w1 ⟨rfl,ae⟩;go_wp2_with fail;refine(Zbl 4 w1).mono ?_;exact Ik
 by_cases a0:n=0
 ·subst a0
  have hE:Hid (Zbg rs=8):=Za (Zrt T.out hl.out);clear h;go_in;go_wp2_with fail;(try rw[a1]);refine(hC.out _ aw).mono ?_;rintro e w1 ⟨rfl,ae⟩;go_wp2_with fail;refine(Zcj 4 w1).mono ?_;rintro e w1 ⟨rfl,rfl⟩;go_wp2_with fail;refine(Zbl 8 w1).mono ?_;exact Ik
 have t2:decide ((0:Int)<(n:Int))=true:=Gv Gk;have e1:decide (0<n)=true:=Gv Gk;have hH:=Za h;have b7:=Za q0;replace a0:=Za a0;clear h q0;go_in;go_wp2_with fail;(try rw[a1]);refine(hC.out _ aw).mono ?_;rintro e w1 ⟨rfl,ae⟩;have b5:=Gs aw ae;have b9:=Gm ae b7;clear b7 hC ae aw a1 s0;go_wp2_with fail;refine(Zcj 4 w1).mono ?_;rintro e w1 ⟨rfl,rfl⟩;go_wp2_with fail;refine(Zcj 8 w1).mono ?_;rintro e w1 ⟨rfl,rfl⟩;go_wp2_with fail
 go_loopg [27] n (λt iv wr=>∃ i:Nat,i+t=n/\iv=.int .i64 i/\Hid (∀ j r,j<i->rs[j]?=some r->Zc9 rs.length r=true)/\Below w1.heap.size w1 wr)
 case atStart=>exact⟨0,by omega,rfl,Za (λj r hj=>by omega),Qb _ _⟩
 case round =>
  obtain⟨wi,rfl⟩:=Gy wr;obtain⟨i,e7,rfl,b0,bV⟩:=hrel;have O:=Gs b5 bV;cases gk with
  | succ t =>
   obtain rfl:t=n-(i+1):=Gk;have d7:i<n:=Gk;have t3:decide ((i:Int)<(n:Int))=true:=Gv Gk;have bi:(i:Int)<(n:Int):=Gk;obtain⟨g,o,r,rfl,he,c0,hL⟩:=(hH.out.below O).at_ d7;have c9:=hL.nlenC;unfold maxLen at c9;have bad:Hid (Zc9 rs.length r=false->Zbg rs=8):=Za (λhf=>Zrc T.out (by rw[hl.out];exact a0.out) (Qr he) hf)
   have good:Hid (Zc9 rs.length r=true->∀ j r',j<i+1->rs[j]?=some r'->Zc9 rs.length r'=true):=Za (λhf j r' hj he'=>by
    rcases Qs j i with h'|h';exact b0.out j r' h' he';obtain rfl:j=i:=Gk;rw[he]at he';cases he';exact hf)
   replace he:=Za he;by_cases hq:r.n=n
   case neg =>
    have t4:((r.n:Int) == (n:Int))=false:=beq_eq_false_iff_ne.2 Gk;have d5:decide (r.n=n)=false:=by simpa using hq
    have hE:Hid (Zbg rs=8):=Za (bad.out (by unfold Zc9;rw[hl.out,Gu hq];rfl));replace hq:=Za hq;clear hL;go_wp2_with fail;refine(Zbl 8 wi).mono ?_;rintro e w6 ⟨rfl,rfl⟩;go_wp2_with fail;exact⟨rfl,LookPost.fall O hE.out Gj⟩
   have t4:((r.n:Int) == (n:Int))=true:=beq_iff_eq.2 Gk;have d5:decide (r.n=n)=true:=by simpa using hq
   obtain⟨y,hy⟩:=Gz (Zc0 r.es);have hV:=Za (λW1 (hb:Below wi.heap.size wi W1)=>Zle r.A r.n r.c r.es W1 (hL.below hb) y hy);have d6:=Za hq;replace hq:=Za hq;clear hL;cases y
   ·have hE:Hid (Zbg rs=8):=Za (bad.out (by unfold Zc9;rw[hy];simp))
    clear hy;go_wp2_with fail;refine(hV.out _ (by first|exact Qb _ _|exact Zf (Qb _ _) _)).mono ?_;rintro e' w2 ⟨rfl,aa⟩;go_wp2_with fail;refine(Zbl 8 w2).mono ?_;rintro e w6 ⟨rfl,rfl⟩;go_wp2_with fail;exact⟨rfl,LookPost.fall (Gs O aa) hE.out Gj⟩
   have az:=Za (good.out (by unfold Zc9;rw[hy,hl.out,d6.out,Gv rfl];rfl));clear hy;go_wp2_with fail;refine(hV.out _ (by first|exact Qb _ _|exact Zf (Qb _ _) _)).mono ?_;rintro e' w2 ⟨rfl,aa⟩;go_wp2_with fail;refine(Zcj 8 w2).mono ?_;rintro e w2 ⟨rfl,rfl⟩;exact Ir
  | zero =>
   obtain rfl:i=n:=Gk;have t3:decide ((i:Int)<(i:Int))=false:=Gh
   have hV:Hid (covV rs):=Za ⟨T.out,by rw[hl.out];exact a0.out,by
    rw[Qw];intro r hr;obtain⟨j,hj,e⟩:=List.getElem_of_mem hr;exact b0.out j r (by rw[hl.out]at hj;exact hj) (by rw[Qc hj,e])⟩
   have c4:=Gm bV b9;have hM:=Za (hV.out.good (hH.out.below O));have c3:Hid (∀ a b,Sm (Zi (qM rs) a b)):=Za (λa b=>(hV.out.small64 hH.out).smC Gj a b);have a2:Hid (∀ a,a<i->((qM rs)[a]?.getD []).length=i):=Za (λa ha=>hV.out.row hH.out a ha);clear b9;go_wp2_with fail
   go_loopg [44] i (λt jv wr=>∃ j:Nat,j+t=i/\jv=.int .i64 j/\Hid (∀ a b,a<j->b<a->Zi (qM rs) a b=Zi (qM rs) b a)/\Below wi.heap.size wi wr)
   case atStart=>exact⟨0,by omega,rfl,Za (λa b ha=>by omega),Qb _ _⟩
   case round =>
    obtain⟨wj,rfl⟩:=Gy wr;obtain⟨j,e5,rfl,b6,u⟩:=hrel;have f:=Gs O u;cases gk with
    | zero =>
     obtain rfl:j=i:=Gk;have t4:decide ((j:Int)<(j:Int))=false:=Gh
     have hs:Hid (Zhd (qM rs)=true):=Za (by
      unfold Zhd;rw[decide_eq_true_eq];intro a ha b hb;rw[show (qM rs).length=j by unfold qM;rw[Qf,hl.out]]at ha;exact b6.out a b ha hb)
     have d4:Hid (FacP (Zi (qM rs)) j):=Za (by have:=hF hV.out hs.out;rw[hl.out]at this;exact this);go_wp2_with fail;refine(Zub A j c (qM rs) wj (hM.out.below u) Gk a2.out d4.out).mono ?_;rintro e w5 ⟨U,⟨hp,v1,v2,L,rfl,a3⟩|⟨hn,rfl⟩⟩
     ·have I:=Zc (Gs u U) c4.out
      rw[Y]at I;obtain⟨A1,c1,rfl,-⟩:=a3.1.mflA;obtain⟨A2,c2,rfl,-⟩:=a3.2.1.fl;rw[Zfx,Zjw]at a3 ⊢;have y0:w5.cell? ⟨gx,0,none⟩=some (.slice none 0 0):=by rw[I.cell];rfl
      have y1:w5.cell? ⟨gx,1,none⟩=some (.slice none 0 0):=by rw[I.cell];rfl
      have z0:=I.frozen 0;have z1:=I.frozen 1;obtain⟨X,hX⟩:∃ X,(w5.setCell ⟨gx,0,none⟩ (.slice A1 j c1)).setCell ⟨gx,1,none⟩ (.slice A2 j c2)=X:=⟨_,rfl⟩;have b3:Kept (λk=>k=gx) w5 X:=by rw[<- hX];exact Kept.set_ (G:=λk=>k=gx) (Kept.set_ (G:=λk=>k=gx) (Qk _ _) (p:=⟨gx,0,none⟩) (.inl rfl) _) (p:=⟨gx,1,none⟩) (.inl rfl) _
      have b2:Blk X gx 99 #[.slice A1 j c1,.slice A2 j c2]:=by rw[<- hX];exact(I.set_ 0 (.slice A1 j c1)).set_ 1 (.slice A2 j c2)
      have x0:X.cell? ⟨gx,0,none⟩=some (.slice A1 j c1):=by rw[b2.cell];rfl
      have x1:X.cell? ⟨gx,1,none⟩=some (.slice A2 j c2):=by rw[b2.cell];rfl
      have c6:gx<wj.heap.size:=by have:=c4.out.lt;rw[Y]at this;have:=u.size;omega
      have d9:=Za (a3.box I (Zk2 _ _ _ _ _ _) c6 b3);have d8:Hid (Zbg rs=0):=Za (hV.out.pos hs.out (by rw[hl.out];exact hp));have aK:Hid (Below w.heap.size w w5):=Za (Gs f U);have d0:Hid (Below w.heap.size w X):=Za (aK.out.trans (b3.to_below (λk e=>by omega) (by have:=aK.out.size;exact this)));have c7:Hid (w.heap.size<=wj.heap.size):=Za f.size;clear a3 b3 b2 I hp;(try rw[Y]);go_wp2_with fail;(try rw[Y]);(try rw[hX]);refine bodyPost_ret (v:=.agg #[.slice A1 j c1,.slice A2 j c2]) (by simp[results,Tryz.results64,go_sem,x0,x1,Y]) rfl ?_;refine⟨d0.out,.inl ⟨d8.out,_,_,L,rfl,?_⟩⟩;rw[hl.out];exact d9.out.lower c7.out
     have hE:Hid (Zbg rs=8):=Za (hV.out.neg hs.out (by rw[hl.out];exact hn));go_wp2_with fail;exact⟨rfl,LookPost.fall (Gs f U) hE.out Gj⟩
    | succ t =>
     obtain rfl:t=i-(j+1):=Gk;have a8:j<i:=Gk;have t4:decide ((j:Int)<(i:Int))=true:=Gv Gk;have bj:(j:Int)<(i:Int):=Gk;obtain⟨g,o,A',n',c',rfl,c0,hR⟩:=(hM.out.below u).at_ a8;have c8:i=n':=by rw[<- hR.len];exact(a2.out j a8).symm
     subst c8;have b1:=hR.cap;unfold maxLen at b1;replace hR:=Za hR;go_wp2_with fail
     go_loopg [50] j (λt kv wr=>∃ k:Nat,k+t=j/\kv=.int .i64 k/\Hid (∀ b,b<k->Zi (qM rs) j b=Zi (qM rs) b j)/\Below wj.heap.size wj wr)
     case atStart=>exact⟨0,by omega,rfl,Za (λb hb=>by omega),Qb _ _⟩
     case round =>
      obtain⟨wk,rfl⟩:=Gy wr;obtain⟨k,e2,rfl,b4,V⟩:=hrel;cases gk with
      | zero =>
       obtain rfl:k=j:=Gk;have t5:decide ((k:Int)<(k:Int))=false:=Gh
       have c5:Hid (∀ a b,a<k+1->b<a->Zi (qM rs) a b=Zi (qM rs) b a):=Za (λa b ha hb=>by
        rcases Qs a k with h'|h';exact b6.out a b h' hb;obtain rfl:a=k:=Gk;exact b4.out b hb)
       go_wp2_with fail
       go_roundg (i-(k+1))
       case measure=>omega
       case rel=>exact⟨k+1,by omega,by go_num,c5,Gs u V⟩
      | succ t' =>
       obtain rfl:t'=j-(k+1):=Gk;have e4:k<j:=Gk;have t5:decide ((k:Int)<(j:Int))=true:=Gv Gk;have bk:(k:Int)<(j:Int):=Gk;have bki:(k:Int)<(i:Int):=Gk;have b8:=Gs u V;obtain⟨ga,oa,xn,xA,xk,xc,xm,xB,xj,xd,rfl,⟨r0,r1,r2,r3⟩,hX⟩:=(hR.out.below V).at_ (show k<i by omega);obtain⟨A2,n2,c2,ck,a6⟩:=(hM.out.below b8).atS (show k<i by omega);have e0:i=n2:=by rw[<- a6.len];exact(a2.out k Gk).symm
       subst e0;have a5:=a6.cap;unfold maxLen at a5;obtain⟨gb,ob,yn,yA,yk,yc,ym,yB,yj,yd,rfl,⟨s0,s1,s2,s3⟩,hY⟩:=a6.at_ a8;have eX:((qM rs)[j]?.getD [])[k]?.getD 0=Zi (qM rs) j k:=rfl;have eY:((qM rs)[k]?.getD [])[j]?.getD 0=Zi (qM rs) k j:=rfl;rw[eX]at hX;rw[eY]at hY;replace hX:=Za hX;replace hY:=Za hY;clear eX eY a6;go_wp2_with fail;obtain⟨X0,a9⟩:=Gz wk.drew;have J:Below wk.heap.size wk X0:=by rw[<- a9];exact Zf (Qb _ _) 1
       have C:Hid (∀ wx,Below wk.heap.size wk wx->wx.cell? ⟨ga,oa+k*4,none⟩=some (.bool xn)/\wx.cell? ⟨ga,oa+k*4+1,none⟩=some (.slice xA xk xc)/\wx.cell? ⟨ga,oa+k*4+2,none⟩=some (.bool xm)/\wx.cell? ⟨ga,oa+k*4+3,none⟩=some (.slice xB xj xd)/\wx.cell? ⟨g,o+k,none⟩=some (.slice (some ⟨gb,ob,none⟩) i c2)/\wx.cell? ⟨gb,ob+j*4,none⟩=some (.bool yn)/\wx.cell? ⟨gb,ob+j*4+1,none⟩=some (.slice yA yk yc)/\wx.cell? ⟨gb,ob+j*4+2,none⟩=some (.bool ym)/\wx.cell? ⟨gb,ob+j*4+3,none⟩=some (.slice yB yj yd)):=Za (λwx hbx=>⟨Zb hbx r0,Zb hbx r1,Zb hbx r2,Zb hbx r3,Zb hbx ck,Zb hbx s0,Zb hbx s1,Zb hbx s2,Zb hbx s3⟩);refine wp_heldS [] hmx C (by rw[a9];exact J) (λhxs=>?_);rw[a9];refine Zj5 11 [0,1,2,3,4,5,6,7,8,9,10] rfl Gi (C.out _ J) ?_
       iterate 11 (refine tkA ?_;try simp only[Qa,Zg7,Zgl,Zg1,Gr,Gq,Gp])
       refine tk0 ?_;refine wpAnyL_o 11 λK hK=>?_;go_simp;refine(fCmp_ok xn xm yn ym xA xB yA yB xk xc xj xd yk yc yj yd _ _ X0 (hX.out.below J) (hY.out.below J) (c3.out _ _) (c3.out _ _)).mono ?_;rintro e w5 ⟨rfl,U⟩;have a7:=Gs J U;refine hK.out _ _ (λ_=>C.out _ a7) ?_;clear hK K
       try simp only[Qa,Zg7,Zgl,Zg1]
       refine Zgm 5 [12,13,14,15,16] rfl Gi (C.out _ a7) ?_
       iterate 5 (refine tkA ?_;try simp only[Qa,Zg7,Zgl,Zg1,Gr,Gq,Gp])
       refine tk0 ?_;refine wpAnyL_fin ?_;have aK:Hid (Below wj.heap.size wj w5):=Za (Gs V a7);clear C hxs J a7 U a9 r0 r1 r2 r3 s0 s1 s2 s3 ck hX hY;by_cases hq:Zi (qM rs) j k=Zi (qM rs) k j
       ·have hz:Zoj (Zi (qM rs) j k) (Zi (qM rs) k j)=0:=cmpQ_zero.2 hq
        rw[hz]
        have eE:Hid (∀ b,b<k+1->Zi (qM rs) j b=Zi (qM rs) b j):=Za (λb hb=>by
         rcases Qs b k with h'|h';exact b4.out b h';obtain rfl:b=k:=Gk;exact hq)
        replace hq:=Za hq;replace hz:=Za hz;go_wp2_with fail;refine(Zcj 8 w5).mono ?_;rintro e w5 ⟨rfl,rfl⟩;exact IW
       obtain⟨z,hz⟩:=Gz (Zoj (Zi (qM rs) j k) (Zi (qM rs) k j));have a4:z≠0:=λe=>hq (cmpQ_zero.1 (by rw[hz];exact e));rw[hz];have t6:(z == 0)=false:=by simpa using a4
       have e3:decide (z=0)=false:=by simpa using a4
       have hE:Hid (Zbg rs=8):=Za (hV.out.asym (by
        cases hb:Zhd (qM rs)with
        | false=>rfl
        | true=>exact absurd (symB_iff.1 hb j k (by unfold qM;rw[Qf,hl.out];exact a8) (by unfold qM;rw[Qf,hl.out];omega)) hq))
       replace hq:=Za hq;replace hz:=Za hz;replace a4:=Za a4;go_wp2_with fail;refine(Zbl 8 w5).mono ?_;rintro e w6 ⟨rfl,rfl⟩;go_wp2_with fail;exact⟨rfl,LookPost.fall (Gs f aK.out) hE.out Gj⟩
theorem Zu2(A:Option Addr)(n c:Nat)(rs:List RX)(w:World)(h:MXL w A n c rs)(hF:FacC rs)(E:Int)(hE:Zbg rs=E) :
    Calls Tryz.prog 35 #[.slice A n c] w λe w'=>e=.returned (.int .i64 E)/\Below w.heap.size w w':=by
 obtain⟨W0,I,o,q0,s0⟩:=Zak w 26 #[.int .i64 0];have hC:=Za (Zk3 A n c rs W0 (h.below o) hF);replace q0:=Za q0;clear h
 go_enter_defers Tryz.func35,Tryz.ntmps35
 go_wp2_with fail;(try rw[I]);refine hC.out.mono ?_;rintro e w1 ⟨y,⟨h0,v1,v2,L,rfl,O⟩|⟨h0,rfl⟩⟩
 ·have u:=Gs o y
  have q1:=Zc y q0.out;have e0:=q1.cell 0;have z0:=q1.frozen 0;simp at e0;obtain⟨U,hU,C,q3,-⟩:=Za1 0 u (Qd _) q1;have r4:=q3.cell 0;simp at r4;obtain rfl:E=0:=by rw[<- hE];exact h0
  clear O;go_wp2_with fail;(try rw[hU]);refine leaves_cons (f:=39) (args:=#[.pointer (some ⟨w.heap.size,0,none⟩)]) Gh Gc ?_;refine(Zfn _ _).mono ?_;rintro e u' w'' ⟨rfl,rfl,rfl⟩;exact⟨.int .i64 0,by simp[results,Tryz.results35,go_sem,r4],rfl,C⟩
 have u:=Gs o y;have q2:=Zc y q0.out;rw[hE];go_wp2_with fail;refine leaves_cons (f:=39) (args:=#[.pointer (some ⟨w.heap.size,0,none⟩)]) Gh Gc ?_;have e0:=q2.cell 0;simp at e0;refine(Zb8 ⟨w.heap.size,0,none⟩ E 0 _ e0 (q2.frozen 0)).mono ?_;rintro e u' w'' ⟨rfl,rfl,hw⟩;obtain⟨V,hV,J,-,-,hk,sV⟩:=Zp 117 #[.int .i64 E] u (u.size);obtain⟨U,hU,C,q3,-⟩:=Za1 E J (Qd _) (hk _ _ _ q2);rw[hV,hU]at hw;subst hw;have r4:=q3.cell 0;simp at r4;exact⟨.int .i64 E,by simp[results,Tryz.results35,go_sem,r4],rfl,C⟩
theorem Zx7(A:Option Addr)(n c:Nat)(rs:List RX)(w:World)(h:MXL w A n c rs)(hF:FacC rs) :
    Calls Tryz.prog 46 #[.slice A n c] w λe w'=>Below w.heap.size w w'/\((Zbg rs=0/\e=.returned (.slice A n c)) \/ (Zbg rs≠0/\e=.panicked [{ v:=.iface 117 (.agg #[.int .i64 16]),recovered:=false }])):=by
 obtain⟨E,hE⟩:=Gz (Zbg rs);have hC:=Za (Zu2 A n c rs w h hF E hE);clear h hF;replace hE:=Za hE;go_in;go_wp2_with fail;refine hC.out.mono ?_;rintro e w1 ⟨rfl,f⟩;by_cases h0:E=0
 ·subst h0
  go_wp2_with fail;refine(Zcj 16 w1).mono ?_;rintro e w1 ⟨rfl,rfl⟩;go_wp2_with fail;go_returns;exact⟨f,.inl ⟨hE.out,rfl⟩⟩
 have t1:(E == 0)=false:=by simpa using h0
 have o:decide (E=0)=false:=by simpa using h0
 replace h0:=Za h0;go_wp2_with fail;refine(Zbl 16 w1).mono ?_;rintro e w6 ⟨rfl,rfl⟩;go_wp2_with fail;exact⟨rfl,f,.inr ⟨by rw[hE.out];exact h0.out,rfl⟩⟩
theorem Zq5(L:Option Addr)(k cap:Nat)(qs:List Rat)(w:World)(hl:FL w L k cap qs)(hk:k<=100)(hs:∀ j,j<k->Sm (sumF qs j))(he:∀ j:Nat,j<k->Sm (qs[j]?.getD 0)) :
    Calls Tryz.prog 70 #[.slice L k cap] w (Zdn w (sumF qs k)):=by
 have a4:=hl.cap;unfold maxLen at a4;obtain⟨W0,a6,a1,q1,s0⟩:=Zak w 73 #[.bool false,.slice none 0 0,.bool false,.slice none 0 0];obtain⟨gR,J⟩:=Gz w.heap.size;rw[J]at q1 s0 a1;have b6:=Za hl;have b9:=Za hs;have c6:=Za he;clear hl hs he;go_in;go_wp2_with fail;(try rw[a6]);(try rw[J]);refine(Zuu 0 W0 Gj Gj).mono ?_;rintro e w1 ⟨C,pn,pA,pk,pc,pm,pB,pj,pd,rfl,hf⟩;replace q1:=Zc C q1;obtain⟨V1,c4,a2,t0,tz⟩:=Zak w1 73 #[.bool false,.slice none 0 0,.bool false,.slice none 0 0];obtain⟨g0,U⟩:=Gz w1.heap.size;rw[U]at t0 tz;obtain⟨υ0,υ1,υ2,υ3,v0,v1,v2,v3⟩:=t0.four;obtain⟨V2,a7,p2,a9,s2⟩:=Zav pn pA pk pc pm pB pj pd t0;have I:Below w1.heap.size w1 V2:=a2.trans (a9.to_below (λk e=>by omega) a2.size);have hA:=Za (hf.below I);have b4:=Zc I q1;have b0:Hid (Below gR w w1):=Za (a1.trans (C.mono Gk));have b3:Hid (V2.heap.size=g0+1/\gR<g0):=Za ⟨by rw[s2,tz],by have:=C.size;omega⟩;have a8:Hid (Below gR w V2):=Za (b0.out.trans (I.mono (by have:=C.size;omega)));have T:=Za J;clear hf a2 a9 s2 tz I q1 C a1 s0 a6;go_wp2_with fail;(try rw[U]);(try rw[a7]);clear υ0 υ1 υ2 υ3 v0 v1 v2 v3 t0 c4 a7 U J
 go_loopg [9] k (λt iv wr=>∃ (i:Nat) (xn:Bool) (xA:Option Addr) (xk xc:Nat) (xm:Bool) (xB:Option Addr) (xj xd:Nat),i+t=k/\iv=.int .i64 i/\Blk wr g0 73 #[.bool xn,.slice xA xk xc,.bool xm,.slice xB xj xd]/\Hid (Fr wr xn xA xk xc xm xB xj xd (sumF qs i))/\Kept (λk=>k=g0) V2 wr)
 case atStart=>exact⟨0,_,_,_,_,_,_,_,_,by omega,rfl,p2,hA,Qk _ _⟩
 case round =>
  obtain⟨i,xn,xA,xk,xc,xm,xB,xj,xd,e5,rfl,Y,hX,hK⟩:=hrel;have c8:=b3.out;have V:=hK.blk b4 Gk;have ct:Below gR w wr:=a8.out.trans (hK.to_below (λk hk=>by omega) Gk);obtain⟨x0,x1,x2,x3,y0,y1,y2,y3⟩:=Y.four;cases gk with
  | zero =>
   obtain rfl:i=k:=Gk;have t1:decide ((i:Int)<(i:Int))=false:=Gh;obtain⟨c0,c1,c2,c3,z0,z1,z2,z3⟩:=V.four;obtain⟨W5,a0,q5,aL,s5⟩:=Zav xn xA xk xc xm xB xj xd V;go_wp2_with fail;(try rw[a0]);obtain⟨r0,r1,r2,r3,-⟩:=q5.four;refine bodyPost_ret (v:=.agg #[.bool xn,.slice xA xk xc,.bool xm,.slice xB xj xd]) (by simp[results,Tryz.results70,go_sem,r0,r1,r2,r3]) rfl ?_;refine⟨?_,_,_,_,_,_,_,_,_,rfl,hX.out.keptN aL V (Za9 _ _ _ _ _ _ _ _)⟩;rw[T.out];exact IC
  | succ t =>
   obtain rfl:t=k-(i+1):=Gk;have a3:i<k:=Gk;have t1:decide ((i:Int)<(k:Int))=true:=Gv Gk;have bi:(i:Int)<(k:Int):=Gk;obtain⟨gl,o,yn,yA,yk,yc,ym,yB,yj,yd,rfl,⟨c0,c1,c2,c3⟩,hY⟩:=(b6.out.below (T.out▸ct)).at_ a3;obtain⟨W1,d7,f,p1,s1⟩:=Zak wr 73 #[.bool false,.slice none 0 0,.bool false,.slice none 0 0];obtain⟨gn,b5⟩:=Gz wr.heap.size;rw[b5]at p1 s1;have c7:=Zc f Y;obtain⟨υ0,υ1,υ2,υ3,v0,v1,v2,v3⟩:=p1.four;obtain⟨W2,b8,b2,a5,c9⟩:=Zav yn yA yk yc ym yB yj yd p1;have h:Below wr.heap.size wr W2:=f.trans (a5.to_below (λk e=>by omega) f.size);have b7:=hX.out.below h;have c5:=hY.below h;have O:=Zc h Y;obtain⟨m0,m1,m2,m3,n0,n1,n2,n3⟩:=O.four;obtain⟨o0,o1,o2,o3,-⟩:=b2.four;have e0:=Zb f c0;have e1:=Zb f c1;have e2:=Zb f c2;have e3:=Zb f c3;go_wp2_with fail;(try rw[b8]);go_wp2_with fail;refine(fAdd_ok xn xm yn ym xA xB yA yB xk xc xj xd yk yc yj yd _ _ W2 b7 c5 (b9.out i a3) (c6.out i a3)).mono ?_;rintro e w3 ⟨u,rn,rA,rk,rc,rm,rB,rj,rd,rfl,hf⟩;go_wp2_with fail;refine(Zf4 rn rm rA rB rk rc rj rd _ w3 hf).mono ?_;rintro e w4 ⟨b1,sn,sA,sk,sc,sm,sB,sj,sd,rfl,hr⟩;have y:=Zc b1 (Zc u O);obtain⟨d0,d8,d5,e4,d6,d3,d4,d9⟩:=y.four;obtain⟨W5,a0,q5,aL,s5⟩:=Zav sn sA sk sc sm sB sj sd y;clear x0 x1 x2 x3 y0 y1 y2 y3 m0 m1 m2 m3 n0 n1 n2 n3 o0 o1 o2 o3 υ0 υ1 υ2 υ3 v0 v1 v2 v3 e0 e1 e2 e3 c0 c1 c2 c3;go_wp2_with fail;(try rw[a0]);have gU:=Za (hr.keptN aL y (Za9 _ _ _ _ _ _ _ _));have gV:Kept (λk=>k=g0) V2 W5:=((hK.below h).below (Gs u b1)).trans aL;exact IT
section
variable{A:Nat->Nat->Rat}{n c:Nat}
def brd(A:Nat->Nat->Rat)(x:Nat->Rat)(n:Nat):Nat->Nat->Rat:=λi k=>if i<n then (if k<n then A i k else x i)else (if k<n then x k else 0)
theorem Z0p(x:Nat->Rat){t i k:Nat}(ht:t<=n)(hi:i<n)(hk:k<n):Zr (brd A x n) t i k=Zr A t i k:=Zcs (n:=n) (m:=n) (λi k hi hk=>by unfold brd;rw[Gx hi,Gx hk]) (Qd _) t i k ht hi hk
theorem brd_d(x:Nat->Rat){t:Nat}(ht:t<n):dQ (brd A x n) t=dQ A t:=Z0p x Gk ht ht
theorem brd_l(x:Nat->Rat){i t:Nat}(hi:i<n)(ht:t<n):lQ (brd A x n) i t=lQ A i t:=by unfold lQ;rw[brd_d x ht,Z0p x Gk hi ht]
theorem Z1m(hA:∀ i k,i<n->k<n->A i k=A k i)(x:Nat->Rat):∀ i k,i<n+1->k<n+1->brd A x n i k=brd A x n k i:=λi k hi hk=>by
 unfold brd;by_cases h1:i<n <;> by_cases h2:k<n;rw[Gx h1,Gx h2,Gx h2,Gx h1,hA i k h1 h2];rw[Gx h1,Gw h2,Gw h2,Gx h1];rw[Gw h1,Gx h2,Gx h2,Gw h1];rw[Gw h1,Gw h2,Gw h2,Gw h1]
theorem Zwx(hA:∀ i k,i<n->k<n->A i k=A k i)(x:Nat->Rat):∀ t,t<=n->Zr (brd A x n) t n n=- Zu t (λs=>Zr (brd A x n) s s n*Zr (brd A x n) s s n/dQ (brd A x n) s)
 | 0,_=>by
  show brd A x n n n=-0;unfold brd;rw[Gw (Qv _),Gw (Qv _)]
  grind
 | t+1,ht=>by
  rw[Zfd Gk,Zwx hA x t Gk,Zfi (Z1m hA x) t n t Gk (Qd _) Gk Gk];show _=-(Zu t _+Zr (brd A x n) t t n*Zr (brd A x n) t t n/dQ (brd A x n) t);unfold dQ;rw[Rat.div_def (Zr (brd A x n) t t n),Rat.div_def (Zr (brd A x n) t t n*Zr (brd A x n) t t n)]
  grind
end
