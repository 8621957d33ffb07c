/- Package linear: Inverse. Det, Solve and Inverse of both -/
import Derived.Test.YthappeninglakaaGreatZe15
set_option maxRecDepth 100000
set_option maxHeartbeats 4000000
set_option linter.unusedSimpArgs false
set_option linter.unusedVariables false
namespace Go.Proofs.YthappeninglakaaGreat
open Go.RowKit
open Nat renaming le_trans→Qa,le_refl→Qb,lt_of_le_of_lt→Qc,lt_trichotomy→Qq,zero_le→Qr
open List renaming replicate→Qd,mem_singleton→Qf,length_replicate→Qh,getElem?_eq_none→Qi,getElem?_replicate→Qj,mem_of_getElem?→Ql,getElem?_range→Qm,getElem?_map→Qp,length_map→Qt
open Act renaming put→Qe
open Rat renaming div_def→Qg,num_divInt_den→Qo
open Below renaming refl→Qk
open Int renaming natAbs_natCast→Qn
open Bool renaming and_eq_true→Qs
open _root_.Array renaming replicate→Qu
attribute [local go_sem] Zg
theorem Zm7(x y:Value)(W:World):(callFunc 81 #[x,y]).run Tryz.prog W=.ok (.enter 81 #[x,y]) W:=by simp[go_sem]
def FPart(t:TypeId)(w:World)(g:Nat)(qs:List Rat)(rest:Nat):Prop:=∃ es zs:List FE,Blk w g t (Z4 (es++zs))/\zs.length=rest/\(∀ e ∈ es,e.in_ w)/\es.map FE.q=qs
section
variable{t:TypeId}{w w':World}{g rest:Nat}{qs:List Rat}
theorem FPart.below(h:FPart t w g qs rest)(hb:Below w.heap.size w w'):FPart t w' g qs rest:=by
 obtain⟨es,zs,h1,h2,h3,h4⟩:=h;exact⟨es,zs,Zc hb h1,h2,λe he=>(h3 e he).below hb,h4⟩
theorem FPart.raw(h:FPart t w g qs rest):FRaw t w g (qs.length+rest):=by
 obtain⟨es,zs,h1,h2,h3,rfl⟩:=h;exact⟨_,h1,by simp[h2]⟩
theorem FPart.own(h:FPart t w g qs 0):FOwn t w g qs:=by
 obtain⟨es,zs,h1,h2,h3,h4⟩:=h;exact⟨es,zs,h1,h3,h4⟩
theorem FPart.push(h:FPart t w g qs (rest+1)){na:Bool}{A:Option Addr}{k c:Nat}{nb:Bool}{B:Option Addr}{m d:Nat}{r:Rat}(hf:Fr w na A k c nb B m d r):FPart t (Zgf w g qs.length na A k c nb B m d) g (qs ++ [r]) rest:=by
 obtain⟨es,zs,h1,h2,h3,rfl⟩:=h
 obtain⟨z,f,rfl⟩:∃ z f,zs=z::f:=by
  cases zs with
  | nil=>simp at h2
  | cons z f=>exact⟨z,f,rfl⟩
 have hn:=Zca (es++z::f);have h4:=(((h1.set_ (es.length*4) (.bool na)).set_ (es.length*4+1) (.slice A k c)).set_ (es.length*4+2) (.bool nb)).set_ (es.length*4+3) (.slice B m d);have hs:=Zho (es:=es++z::f) (i:=es.length) ⟨na,A,k,c,nb,B,m,d,r⟩ Gh;dsimp only at hs;rw[hs,List.set_append_right _ _ (Qb _),Nat.sub_self,List.set_cons_zero]at h4;refine⟨es ++ [⟨na,A,k,c,nb,B,m,d,r⟩],f,?_,by simpa using h2,λe he=>?_,by simp⟩;rw[List.append_assoc,List.singleton_append,Qt];exact h4;rw[Qt];rcases List.mem_append.1 he with he|he
 ·obtain⟨a,b⟩:=h3 e he
  exact⟨⟨a.1,a.2.1,Zgg a.2.2 h1 hn⟩,⟨b.1,b.2.1,Zgg b.2.2 h1 hn⟩⟩
 rw[Qf]at he;subst he;exact⟨⟨hf.1.1,hf.1.2.1,Zgg hf.1.2.2 h1 hn⟩,⟨hf.2.1,hf.2.2.1,Zgg hf.2.2.2 h1 hn⟩⟩
end
theorem Zx3{n i:Nat}(hi:i<n):(Qd n (0:Rat)).set i 1=Zf2 n i:=by
 unfold Zf2;apply List.ext_getElem?;intro k;rw[List.getElem?_set,Qh,Qp];by_cases hk:k<n
 ·rw[Qm hk,Qj,Gx hk,Option.map_some]
  by_cases h:i=k;rw[Gx h,Gx hi,Gx h];rw[Gw h,Gw h]
 rw[Qj,Gw hk,Gw Gk,Qi (by simpa using hk)];rfl
theorem Cs{G:Prop}(h:G:=by
 rw[<- hZ];exact Zjh (hB.trans (aa.mono (by rw[<- hg];exact hB.size))) (Nat.le_refl _)):G:=h
theorem Ztd(gx:Nat)(A:Option Addr)(n c i:Nat)(w:World)(hx:Blk w gx 25 #[.slice A n c])(hn9:n<=900)(hin:i<n) :
    Calls Tryz.prog 81 #[.int .i64 i,.pointer (some ⟨gx,0,none⟩)] w λe w'=>∃ A c,e=.returned (.slice A n c)/\Below w.heap.size w w'/\FL w' A n c (Zf2 n i):=by
 obtain⟨iF,hi,J,O,T⟩:=info_parts Ze0;have I:=Zu7 (P:=Tryz.prog) 35 41 Tryz.underlying35 hi J O T (n:Int) n rfl Gk w;obtain⟨W0,u⟩:=Gz (w.alloc (.cells (Z4 (Qd n Zax)) 41));obtain⟨g,hg⟩:=Gz w.heap.size;rw[u,hg]at I;have U:Below g w W0:=by rw[<- u,<- hg];exact(Qk _ _).alloc (Qb _) _
 have y:FPart 41 W0 g [] n:=⟨[],Qd n Zax,by rw[<- u,<- hg];exact Blk.new _ _ _,by simp,λe he=>(by cases he),rfl⟩;have V:=hx.cell 0;simp at V;replace y:=Zb y;rw[hg];clear u;go_in;go_wp2_with fail
 go_loopg [11] n (λj kv wr=>∃ k:Nat,k+j=n/\kv=.int .i64 k/\FPart 41 wr g (Qd k 0) (n-k)/\Below g w wr)
 case atStart=>exact⟨0,by omega,rfl,y.out,U⟩
 case round =>
  clear y I;obtain⟨k,a1,rfl,hP,hB⟩:=hrel;cases gk with
  | zero =>
   obtain rfl:k=n:=Gk;have t1:decide ((k:Int)<(k:Int))=false:=Gh;rw[Nat.sub_self]at hP;have bi:(i:Int)<(k:Int):=Gk;have Y:(0:Int)<=(i:Int):=Gk;replace hP:=Zb hP;go_wp2_with fail;refine(Zrh 1 1 wr Gj Gj Gj Gj).mono ?_;rintro e w2 ⟨aa,n6,A6,k6,c6,m6,B6,j6,d6,rfl,o⟩;rw[Zfh]at o;have f:=hP.out.below aa;have h:(Qd k (0:Rat)).length=k:=Qh ..;obtain⟨x0,x1,x2,x3,x4,x5,x6,x7,y0,y1,y2,y3⟩:=f.raw.cells (i:=i) (by rw[h];omega);have z0:=f.raw.frozen (i*4);have z1:=f.raw.frozen (i*4+1);have z2:=f.raw.frozen (i*4+2);have z3:=f.raw.frozen (i*4+3);obtain⟨Z,hZ⟩:=Gz (Zgf w2 g i n6 A6 k6 c6 m6 B6 j6 d6)
   have hO:FOwn 41 Z g (Zf2 k i):=by
    rw[<- Zx3 hin,<- hZ];exact f.own.set_ (by rw[h];exact hin) o
   have C:Below g w Z:=by
    exact Cs
   unfold Zgf at hZ;replace hO:=Zb hO;clear f o hP;go_wp2_with fail;(try rw[hZ]);go_wp2_with fail;go_ret;have h1:=hO.out.fl (c:=k) (by rw[Zid];exact Qb _) (by unfold maxLen;omega);rw[Zid]at h1;exact⟨_,_,rfl,C,h1⟩
  | succ j =>
   obtain rfl:j=n-(k+1):=Gk;have a0:k<n:=Gk;have t1:decide ((k:Int)<(n:Int))=true:=Gv Gk;have bi:(k:Int)<(n:Int):=Gk;have Y:(0:Int)<=(k:Int):=Gk;replace hP:=Zb hP;go_wp2_with fail;refine(Zrh 0 1 wr Gj Gj Gj Gj).mono ?_;rintro e w2 ⟨aa,n6,A6,k6,c6,m6,B6,j6,d6,rfl,o⟩;rw[Zfh]at o;have f:=hP.out.below aa;have h:(Qd k (0:Rat)).length=k:=Qh ..;obtain⟨x0,x1,x2,x3,x4,x5,x6,x7,y0,y1,y2,y3⟩:=f.raw.cells (i:=k) (by rw[h];omega);have z0:=f.raw.frozen (k*4);have z1:=f.raw.frozen (k*4+1);have z2:=f.raw.frozen (k*4+2);have z3:=f.raw.frozen (k*4+3);obtain⟨Z,hZ⟩:=Gz (Zgf w2 g k n6 A6 k6 c6 m6 B6 j6 d6)
   have hO:FPart 41 Z g (Qd (k+1) 0) (n-(k+1)):=by
    rw[show n-k=n-(k+1)+1 by omega]at f;have h1:=f.push o;rw[h,hZ]at h1;rw[List.replicate_succ'];exact h1
   have C:Below g w Z:=by
    exact Cs
   unfold Zgf at hZ;replace hO:=Zb hO;clear f o hP;go_wp2_with fail;(try rw[hZ]);go_wp2_with fail
   go_roundg (n-(k+1))
   case measure=>omega
   case rel=>exact⟨k+1,by omega,by go_num,hO.out,C⟩
section
variable{k n m:Nat}{R:List (List Rat)}
end
theorem Zg1{Q:List (List Rat)}{n:Nat}(hrow:∀ i,i<n->(Q[i]?.getD []).length=n)(hq:Q.length=n)(i j:Nat):Zh (Zbe Q n n 0) i j=if i<n then (if j<n then Zh Q i j else if j-n<n then (if i=j-n then 1 else 0)else 0)else 0:=by
 by_cases hi:i<n
 ·rw[Gx hi]
  unfold Zh;rw[Zk4 hi,Gx hi];have hr:=hrow i hi;by_cases hj:j<n;rw[Gx hj,List.getElem?_append_left Gk];rw[Gw hj,List.getElem?_append_right Gk,hr];unfold Zf2;rw[Qp];by_cases hjn:j-n<n;rw[Gx hjn,Qm hjn];rfl;rw[Gw hjn,Qi Gg];rfl
 rw[Gw hi];unfold Zh;rw[Qi (l:=Zbe Q n n 0) (by rw[Zps];omega)];rfl
def Zn(A:Nat->Nat->Rat):Nat->Nat->Nat->Rat
 | 0,i,k=>A i k
 | t+1,i,k=>if t<i then Zn A t i k-Zn A t i t/Zn A t t t*Zn A t t k else Zn A t i k
theorem Zm3{A:Nat->Nat->Rat}{i k:Nat}:∀ {t:Nat},i<=t->Zn A t i k=Zn A i i k
 | 0,h=>by rw[show i=0 by omega]
 | t+1,h=>by
  by_cases hit:i=t+1;rw[hit];show (if t<i then _ else _)=_;rw[Gw Gk];exact Zm3 Gk
theorem Zde{A:Nat->Nat->Rat}{t i k:Nat}(h:t<i):Zn A (t+1) i k=Zn A t i k-Zn A t i t/Zn A t t t*Zn A t t k:=by
 show (if t<i then _ else _)=_;rw[Gx h]
theorem Zeg{A:Nat->Nat->Rat}{n:Nat}(hA:∀ i k,i<n->k<n->A i k=A k i):∀ (t i k:Nat),t<=i->t<=k->i<n->k<n->Zn A t i k=Zn A t k i
 | 0,i,k,_,_,hi,hk=>hA i k hi hk
 | t+1,i,k,h1,h2,hi,hk=>by
  rw[Zde Gk,Zde Gk,Zeg hA t i k Gk Gk hi hk,Zeg hA t i t Gk Gk hi Gk,Zeg hA t t k Gk Gk Gk hk];rw[Qg,Qg]
  grind
theorem Zcu{A C:Nat->Nat->Rat}{n m:Nat}(h:∀ i k,i<n->k<m->A i k=C i k)(hnm:n<=m):∀ (t i k:Nat),t<=n->i<n->k<m->Zn A t i k=Zn C t i k
 | 0,i,k,_,hi,hk=>h i k hi hk
 | t+1,i,k,ht,hi,hk=>by
  show (if t<i then _ else _)=(if t<i then _ else _);rw[Zcu h hnm t i k Gk hi hk,Zcu h hnm t i t Gk hi Gk,Zcu h hnm t t t Gk Gk Gk,Zcu h hnm t t k Gk Gk hk]
def dQ(A:Nat->Nat->Rat)(i:Nat):Rat:=Zn A i i i
def lQ(A:Nat->Nat->Rat)(i k:Nat):Rat:=Zn A k i k/dQ A k
theorem Zmq{A:Nat->Nat->Rat}{n:Nat}(hA:∀ i k,i<n->k<n->A i k=A k i){t i k:Nat}(ht:t<k)(hk:k<=i)(hi:i<n)(hd:dQ A t≠0) :
    Zn A (t+1) i k=Zn A t i k-lQ A i t*lQ A k t*dQ A t:=by
 rw[Zde Gk,Zeg hA t t k Gk Gk Gk Gk];unfold lQ dQ at *
 grind
theorem Zpw{A:Nat->Nat->Rat}{t i k:Nat}(ht:t<i):Zn A (t+1) i k=Zn A t i k-lQ A i t*Zn A t t k:=by
 rw[Zde ht];rfl
def Zft(R:List (List Rat)):Nat->List (List Rat)
 | 0=>R
 | t+1=>Zbq (Zft R t) t t
theorem Zhw(R:List (List Rat)):∀ t,(Zft R t).length=R.length
 | 0=>rfl
 | t+1=>by
  show (Zbq _ _ _).length=_;rw[Ze7];exact Zhw R t
def posP(A:Nat->Nat->Rat)(n:Nat):Prop:=∀ t,t<n->0<dQ A t
theorem posP.mono{A:Nat->Nat->Rat}{n m:Nat}(h:posP A n)(hm:m<=n):posP A m:=λt ht=>h t Gk
theorem posP.ne{A:Nat->Nat->Rat}{n:Nat}(h:posP A n){t:Nat}(ht:t<n):dQ A t≠0:=λh0=>by have:=h t ht;rw[h0]at this;exact absurd this Gj
section
variable{B S n m:Nat}{R:List (List Rat)}
theorem Zih{pc:Nat->Nat}{G:Nat->Nat->Rat}{s:Nat->Rat}(h0:EIR B S n m 0 0 R pc G s):∀ t,t<=n->t<=m->posP (Zh R) t->(∃ pc,EIR B S n m t t (Zft R t) pc G s)/\∀ i k,i<n->Zh (Zft R t) i k=Zn (Zh R) t i k
 | 0,_,_,_=>⟨⟨_,h0⟩,λi k _=>rfl⟩
 | t+1,hn,hm,hp=>by
  obtain⟨⟨pc,h1⟩,h2⟩:=Zih h0 t Gk Gk (hp.mono Gk);have h0:Zh (Zft R t) t t≠0:=by rw[h2 t t Gk];exact hp.ne Gk
  refine⟨⟨_,h1.clear Gk Gk h0⟩,λi k hi=>?_⟩;show Zh (Zbq (Zft R t) t t) i k=if t<i then _ else _;rw[Zgx (m:=m) (λi hi=>h1.row i (by rw[h1.len]at hi;exact hi)) (λj hj=>h1.low t j (Qb _) Gk hj) i k (by rw[h1.len];exact hi) (by rw[h1.len];omega)]
  by_cases hti:t<i;rw[Gw Gk,Gx hti,h2 i k hi,h2 i t hi,h2 t t Gk,h2 t k Gk];rw[Gx Gk,Gw hti,h2 i k hi]
theorem Zsa(hl:R.length=n)(hrow:∀ i,i<n->(R[i]?.getD []).length=m)(hS:∀ i,i<n->denAt R i<=S)(hBd:∀ i j,i<n->(Zaf (Z7 R) i j).natAbs<=B)(t:Nat)(hn:t<=n)(hm:t<=m)(hp:posP (Zh R) t) :
    (∃ pc G s,EIR B S n m t t (Zft R t) pc G s)/\∀ i k,i<n->Zh (Zft R t) i k=Zn (Zh R) t i k:=by
 obtain⟨⟨pc,h1⟩,h2⟩:=Zih (Znv R hl hrow hS hBd).1 t hn hm hp;exact⟨⟨_,_,_,h1⟩,h2⟩
theorem Ztw{D:Nat}(hl:R.length=n)(hrow:∀ i,i<n->(R[i]?.getD []).length=m)(hD:0<D)(hB:∀ i j,i<n->BndQ B ((D:Nat)*Zh R i j)):EIR B D n m 0 0 R (λ_=>0) (λi j=>(D:Nat)*Zh R i j) (λ_=>(D:Nat)):=by
 refine⟨hl,hrow,λl h=>by omega,λl l' _ h=>by omega,λi j _ _ h=>by omega,λl j h=>by omega,λl h=>by omega,Qr _,Qr _,λi hi=>⟨⟨(D:Nat),by rw[Rat.intCast_natCast],by rw[Qn];exact Qb _⟩,λh0=>?_⟩,λi j hi=>hB i j hi,λN f σ _ _ _=>rfl⟩;have:D=0:=by exact_mod_cast h0
 omega
end
section
variable{k n m:Nat}{R:List (List Rat)}
end
theorem SmE.red2{k n m:Nat}{R:List (List Rat)}(h:SmE k R)(hl:R.length=n)(hn:n<=900)(hrow:∀ i,i<n->(R[i]?.getD []).length=m){t:Nat}(ht:t<=n)(htm:t<=m)(hp:posP (Zh R) t){i:Nat}(hi:i<n)(j:Nat):SmN ((k*m+k+1)*n+1) ((k*m+k+1)*n+k*m+1) (Zn (Zh R) t i j):=by
 obtain⟨⟨pc,G,s,h3⟩,h4⟩:=Zsa (B:=pw (k*m+k)) (S:=pw (k*m)) hl hrow (λi hi=>h.denAt (hrow i hi)) (λi j hi=>h.whole (hrow i hi) j) t ht htm hp;obtain⟨h5,h6⟩:=h3.bound (Zb1 _) hi j;rw[h4 i j hi]at h5 h6;have hb:=Zkh (b:=k*m+k) n hn;refine⟨Qc (Qa h5 hb) (Zct Gk),?_⟩;refine Qc (Qa h6 (Nat.mul_le_mul hb (Qb _))) ?_;rw[<- Zcx];exact Zct Gk
structure FacP (A:Nat->Nat->Rat) (n:Nat):Prop where
 sym:∀ i k,i<n->k<n->A i k=A k i
 s:∀ t i k,t<=n->posP A t->i<n->k<n->SmN 380 380 (Zn A t i k)
 l:∀ i k,k<=i->i<n->posP A (k+1)->SmN 300 300 (lQ A i k)
section
variable{A:Nat->Nat->Rat}{n:Nat}
theorem FacP.d(h:FacP A n){k:Nat}(hk:k<n)(hp:posP A k):SmN 380 380 (dQ A k):=h.s k k k Gk hp hk hk
theorem FacP.ll(h:FacP A n){i j k:Nat}(hki:k<=i)(hi:i<n)(hkj:k<=j)(hj:j<n)(hp:posP A (k+1)):SmN 600 600 (lQ A i k*lQ A j k):=((h.l i k hki hi hp).mulN (h.l j k hkj hj hp)).mono Gj Gj
theorem FacP.lld(h:FacP A n){i j k:Nat}(hki:k<=i)(hi:i<n)(hkj:k<=j)(hj:j<n)(hp:posP A (k+1)):SmN 980 980 (lQ A i k*lQ A j k*dQ A k):=((h.ll hki hi hkj hj hp).mulN (h.d (show k<n by omega) (hp.mono Gk))).mono Gj Gj
end
theorem FacP.unif{n D b e:Nat}{R:List (List Rat)}(hl:R.length=n)(hn:n<=900)(hrow:∀ i,i<n->(R[i]?.getD []).length=n)(hA:∀ i k,i<n->k<n->Zh R i k=Zh R k i)(hD:0<D)(hDe:D<=pw e)(hB:∀ i j,i<n->BndQ (pw b) ((D:Nat)*Zh R i j))
    (h1:(b+1)*n<300) (h2:(b+1)*n+e<380):FacP (Zh R) n:=by
 have h0:=Ztw hl hrow hD hB;have hb:=Zkh (b:=b) n hn
 have o:((D:Nat):Rat)≠0:=λh=>by
  have:D=0:=by exact_mod_cast h
  omega
 refine⟨hA,λt i j ht hp hi _=>?_,λi k hki hi hp=>?_⟩
 ·obtain⟨⟨pc,h3⟩,h4⟩:=Zih h0 t ht ht hp
  obtain⟨h5,h6⟩:=h3.bound (Zb1 _) hi j;rw[h4 i j hi]at h5 h6;refine⟨Qc (Qa h5 hb) (Zct Gk),?_⟩;refine Qc (Qa h6 (Nat.mul_le_mul hb hDe)) ?_;rw[<- Zcx];exact Zct Gk
 obtain⟨⟨pc,h3⟩,h4⟩:=Zih h0 k Gk Gk (hp.mono Gk);have m1:=h3.minor hi k;have m2:=h3.minor (show k<n by omega) k;rw[show min i k=k by omega,h4 i k hi]at m1;rw[Nat.min_self,h4 k k Gk]at m2;have hd:Zn (Zh R) k k k≠0:=hp.ne Gk;have f:=h3.piv_ne (l:=k) (Qb _)
 have e1:Zes (Zft R k) pc (λ_=>((D:Nat):Rat)) k*(((D:Nat):Rat)*Zn (Zh R) k k k)*lQ (Zh R) i k=Zes (Zft R k) pc (λ_=>((D:Nat):Rat)) k*(((D:Nat):Rat)*Zn (Zh R) k i k):=by
  unfold lQ dQ
  grind
 rw[<- e1]at m1
 obtain⟨h5,h6⟩:=Zfn m1 m2 (λh=>by
  rcases Rat.mul_eq_zero.1 h with h7|h7;exact f h7;rcases Rat.mul_eq_zero.1 h7 with h8|h8;exact o h8;exact hd h8)
 have hm:=Zc4 (B:=pw b) (m:=k+1) (n:=n) (Zb1 _) Gk;exact⟨Qc (Qa h5 (Qa hm hb)) (Zct Gk),Qc (Qa h6 (Qa hm hb)) (Zct Gk)⟩
theorem FacP.of{k n:Nat}{R:List (List Rat)}(h:SmE k R)(hl:R.length=n)(hn:n<=900)(hrow:∀ i,i<n->(R[i]?.getD []).length=n)(hA:∀ i k,i<n->k<n->Zh R i k=Zh R k i)(h1:(k*n+k+1)*n+((k*n+k+1)*n+k*n)+2<=300):FacP (Zh R) n:=by
 refine⟨hA,λt i j ht hp hi _=>(h.red2 hl hn hrow ht ht hp hi j).mono Gk Gk,λi j hji hi hp=>?_⟩;have hj:j<n:=Gk;have a:=h.red2 hl hn hrow (t:=j) Gk Gk (hp.mono Gk) hi j;have b:=h.red2 hl hn hrow (t:=j) Gk Gk (hp.mono Gk) hj j;exact(a.divN b (hp.ne Gk)).mono Gk Gk
def FX.fine64(e:FX):Bool:=decide (e.few<=64) && e.ok
def Zci(es:List FX):Bool:=es.all FX.fine64
def RX.long6(r:RX):Bool:=decide (6<r.n)
def long6(rs:List RX):Bool:=decide (6<rs.length) || rs.any RX.long6
def Zc6(k:Nat)(r:RX):Bool:=decide (r.n=k) && Zci r.es
def Zhg(Q:List (List Rat)):Bool:=decide (∀ i,i<Q.length->∀ k,k<i->Zh Q i k=Zh Q k i)
def posB(A:Nat->Nat->Rat)(n:Nat):Bool:=decide (∀ t,t<n->0<dQ A t)
theorem posB_iff{A:Nat->Nat->Rat}{n:Nat}:posB A n=true ↔ posP A n:=by unfold posB posP;rw[decide_eq_true_eq]
def Za2(rs:List RX):Int:=if long6 rs=true then 4 else if rs.length=0 then 8 else if rs.all (Zc6 rs.length)=true then (if (Zhg (qM rs) && posB (Zh (qM rs)) rs.length)=true then 0 else 8)else 8
section
variable{rs:List RX}
theorem Zfz(h:long6 rs=true):Za2 rs=4:=by unfold Za2;rw[Gx h]
theorem Zr3(h:long6 rs=false)(h0:rs.length=0):Za2 rs=8:=by unfold Za2;rw[Gw (by simp[h]),Gx h0]
theorem Zrm(h:long6 rs=false)(h0:rs.length≠0){r:RX}(hr:r ∈ rs)(hb:Zc6 rs.length r=false):Za2 rs=8:=by
 unfold Za2;exact IX
theorem Ic{G:Prop}(h:G:=by
 rw[List.all_eq_true]at h3;have h7:=h3 r hr;unfold Zc6 at h7;rw[Bool.and_eq_true,decide_eq_true_eq]at h7;exact h7):G:=h
theorem Zu8(h:Za2 rs=0):0<rs.length/\rs.length<=6/\(∀ r ∈ rs,r.n=rs.length/\Zci r.es=true)/\Zhg (qM rs)=true/\posP (Zh (qM rs)) rs.length:=by
 unfold Za2 at h;by_cases h1:long6 rs=true;rw[Gx h1]at h;cases h;rw[Gw h1]at h;by_cases h2:rs.length=0;rw[Gx h2]at h;cases h;rw[Gw h2]at h;by_cases h3:rs.all (Zc6 rs.length)=true
 ·rw[Gx h3]at h
  by_cases h4:(Zhg (qM rs) && posB (Zh (qM rs)) rs.length)=true
  ·rw[Qs]at h4
   have h5:long6 rs=false:=by simpa using h1
   unfold long6 at h5;rw[Bool.or_eq_false_iff]at h5;have h6:=of_decide_eq_false h5.1;refine⟨by omega,by omega,λr hr=>?_,h4.1,posB_iff.1 h4.2⟩;exact Ic
  rw[Gw h4]at h;cases h
 rw[Gw h3]at h;cases h
theorem symB_iff{Q:List (List Rat)}:Zhg Q=true ↔ ∀ i k,i<Q.length->k<Q.length->Zh Q i k=Zh Q k i:=by
 unfold Zhg;rw[decide_eq_true_eq];constructor
 ·intro h i k hi hk
  rcases Qq i k with h1|h1|h1;exact(h k hk i h1).symm;rw[h1];exact h i hi k h1
 intro h i hi k hk;exact h i k hi Gk
theorem Zto{es:List FX}(h:Zci es=true):∀ e ∈ es,e.ok=true:=λe he=>by
 unfold Zci at h;rw[List.all_eq_true]at h;have:=h e he;unfold FX.fine64 at this;rw[Qs]at this;exact this.2
end
def Zjr(k:Nat)(rs:List RX):Prop:=∀ r ∈ rs,∀ e ∈ r.es,e.few<=k \/ 64<e.few
section
variable{w:World}{A:Option Addr}{n c:Nat}{rs:List RX}
theorem Zj6{e:FX}(hin:e.in_ w)(hk:e.ok=true){k:Nat}(hf:e.few<=k):(e.q).num.natAbs<=pw k/\(e.q).den<=pw k:=by
 have h1:Fr w e.na e.A e.n e.c e.nb e.B e.m e.d e.q:=Zk6 hin.1 hin.2 hk;have h2:=h1.1.lim.len;have h3:=h1.2.lim.len;unfold FX.few at hf;constructor
 ·have h4:=Nat.le_of_lt (Zcw e.q.num.natAbs)
  rw[h2]at h4;exact Qa h4 (Zb6 Gk)
 have h4:=Nat.le_of_lt (Zcw ((e.q.den:Int).natAbs));rw[h3]at h4;simp only[Qn]at h4;exact Qa h4 (Zb6 Gk)
end
theorem Zw8{n:Nat}(f g:Nat->Rat):Zw n (λi=>f i+g i)=Zw n f+Zw n g:=by
 exact Fe
theorem Zip{n:Nat}(f:Nat->Rat)(c:Rat):Zw n (λi=>f i*c)=Zw n f*c:=by
 exact Fe
theorem Zk0{n m:Nat}(f:Nat->Nat->Rat):Zw n (λr=>Zw m (λk=>f r k))=Zw m (λk=>Zw n (λr=>f r k)):=by
 induction n with
 | zero=>simp only[Zw];rw[Zgi (λ_ _=>rfl)]
 | succ n ih=>simp only[Zw];rw[ih,Zw8]
theorem Zhr{n:Nat}{f:Nat->Rat}(h:∀ i,i<n->0<=f i):0<=Zw n f:=by
 induction n with
 | zero=>simp only[Zw];exact Rat.le_refl
 | succ n ih =>
  simp only[Zw];have h1:=ih λi hi=>h i Gk;have h2:=h n Gk
  grind
theorem Zoq{n:Nat}{f:Nat->Rat}(h:∀ i,i<n->0<=f i)(hs:Zw n f=0):∀ i,i<n->f i=0:=by
 induction n with
 | zero=>intro i hi;omega
 | succ n ih =>
  simp only[Zw]at hs;have h1:=Zhr (n:=n) λi hi=>h i Gk;have h2:=h n Gk;have h3:Zw n f=0:=by grind
  have h4:f n=0:=by grind
  intro i hi;by_cases hin:i=n;rw[hin];exact h4;exact ih (λi hi=>h i Gk) h3 i Gk
def tL(A:Nat->Nat->Rat)(i t:Nat):Rat:=if t<i then lQ A i t else if t=i then 1 else 0
def Zsc(A:Nat->Nat->Rat)(n c:Nat):Rat:=Zw n (λs=>Zn A s s c*Zn A s s c/dQ A s)
section
variable{A:Nat->Nat->Rat}{n c:Nat}
theorem Zv1:∀ (t i:Nat),t<=i->A i c=Zn A t i c+Zw t (λs=>lQ A i s*Zn A s s c)
 | 0,i,_=>by show A i c=A i c+0;grind
 | t+1,i,h=>by
  have h1:=Zv1 t i Gk;have h2:=Zpw (A:=A) (k:=c) (show t<i by omega);show A i c=_+(Zw t _+_);rw[h2]
  grind
theorem Zz3{i:Nat}(hi:i<n):A i c=Zw n (λs=>tL A i s*Zn A s s c):=by
 rw[Zof (n:=i) (m:=n) (k:=i) (f:=λs=>tL A i s*Zn A s s c) (Qb _) hi (λj h1 h2=>by
  show tL A i j*_=0;unfold tL;rw[Gw Gk,Gw h2]
  grind)]
 have h1:=Zv1 (A:=A) (c:=c) i i (Qb _)
 have h2:Zw i (λs=>tL A i s*Zn A s s c)=Zw i (λs=>lQ A i s*Zn A s s c):=Zq λs hs=>by
  unfold tL;rw[Gx hs]
 have h3:tL A i i=1:=by unfold tL;rw[Gw Gk,Gx rfl]
 show A i c=Zw i (λs=>tL A i s*Zn A s s c)+tL A i i*Zn A i i c;rw[h2,h3,h1]
 grind
theorem Z0u(hA:∀ i k,i<n->k<n->A i k=A k i)(hp:posP A n)(hU:∀ i j,i<n->j<i->Zn A i i j=0){i j:Nat}(hi:i<n)(hj:j<n):Zn A i i j=dQ A i*tL A j i:=by
 have hd:=hp.ne hi;unfold tL;rcases Qq i j with h|h|h
 ·rw[Gx h]
  unfold lQ;rw[Zeg hA i i j (Qb _) Gk hi hj]
  grind
 ·subst h
  rw[Gw Gk,Gx rfl];unfold dQ
  grind
 rw[Gw Gk,Gw Gk,hU i j hi h]
 grind
theorem Iy{G:Prop}(h:G:=by
 rcases Rat.le_total (a:=0) (b:=Zn A s s c)with h|h;exact Rat.mul_nonneg h h;have h3:0 <= - Zn A s s c:=by grind
 have:=Rat.mul_nonneg h3 h3
 grind):G:=h
theorem Zs9(hp:posP A n):0<=Zsc A n c:=Zhr λs hs=>by
 have h1:=hp s hs
 have h2:0<=Zn A s s c*Zn A s s c:=by
  exact Iy
 rw[Qg];exact Rat.mul_nonneg h2 (Rat.le_of_lt (Rat.inv_pos.2 h1))
theorem Zy1(hp:posP A n)(h:Zsc A n c=0){i:Nat}(hi:i<n):A i c=0:=by
 have h1:∀ s,s<n->Zn A s s c=0:=λs hs=>by
  have h2:=Zoq (f:=λs=>Zn A s s c*Zn A s s c/dQ A s) (λs hs=>by
   have h1:=hp s hs
   have h2:0<=Zn A s s c*Zn A s s c:=by
    exact Iy
   rw[Qg];exact Rat.mul_nonneg h2 (Rat.le_of_lt (Rat.inv_pos.2 h1))) h s hs
  have hd:=hp.ne hs
  have h3:Zn A s s c*Zn A s s c=0:=by
   have:Zn A s s c*Zn A s s c/dQ A s*dQ A s=Zn A s s c*Zn A s s c:=by grind
   rw[<- this];rw[show Zn A s s c*Zn A s s c/dQ A s=0 from h2]
   grind
  rcases Rat.mul_eq_zero.1 h3 with h|h <;> exact h
 rw[Zz3 (A:=A) (c:=c) hi];exact Zgi λs hs=>by rw[h1 s hs];grind
def brd(A:Nat->Nat->Rat)(x:Nat->Rat)(n:Nat):Nat->Nat->Rat:=λi k=>if i<n then (if k<n then A i k else x i)else (if k<n then x k else 0)
theorem Zhs(x:Nat->Rat){t i k:Nat}(ht:t<=n)(hi:i<n)(hk:k<n):Zn (brd A x n) t i k=Zn A t i k:=Zcu (n:=n) (m:=n) (λi k hi hk=>by unfold brd;rw[Gx hi,Gx hk]) (Qb _) t i k ht hi hk
theorem Zno(x:Nat->Rat){t:Nat}(ht:t<n):dQ (brd A x n) t=dQ A t:=Zhs x Gk ht ht
theorem brd_l(x:Nat->Rat){i t:Nat}(hi:i<n)(ht:t<n):lQ (brd A x n) i t=lQ A i t:=by unfold lQ;rw[Zno x ht,Zhs x Gk hi ht]
theorem Zru(x:Nat->Rat){m:Nat}(hm:m<=n):posP (brd A x n) m ↔ posP A m:=⟨λh t ht=>by rw[<- Zno x (show t<n by omega)];exact h t ht,λh t ht=>by rw[Zno x (show t<n by omega)];exact h t ht⟩
theorem Z1k(hA:∀ i k,i<n->k<n->A i k=A k i)(x:Nat->Rat):∀ i k,i<n+1->k<n+1->brd A x n i k=brd A x n k i:=λi k hi hk=>by
 unfold brd;by_cases h1:i<n <;> by_cases h2:k<n;rw[Gx h1,Gx h2,Gx h2,Gx h1,hA i k h1 h2];rw[Gx h1,Gw h2,Gw h2,Gx h1];rw[Gw h1,Gx h2,Gx h2,Gw h1];rw[Gw h1,Gw h2,Gw h2,Gw h1]
theorem Zwz(hA:∀ i k,i<n->k<n->A i k=A k i)(x:Nat->Rat):∀ t,t<=n->Zn (brd A x n) t n n=- Zw t (λs=>Zn (brd A x n) s s n*Zn (brd A x n) s s n/dQ (brd A x n) s)
 | 0,_=>by
  show brd A x n n n=-0;unfold brd;rw[Gw (Nat.lt_irrefl _),Gw (Nat.lt_irrefl _)]
  grind
 | t+1,ht=>by
  rw[Zde Gk,Zwz hA x t Gk,Zeg (Z1k hA x) t n t Gk (Qb _) Gk Gk];show _=-(Zw t _+Zn (brd A x n) t t n*Zn (brd A x n) t t n/dQ (brd A x n) t);unfold dQ;rw[Qg (Zn (brd A x n) t t n),Qg (Zn (brd A x n) t t n*Zn (brd A x n) t t n)]
  grind
end
section
variable{k n m:Nat}{R:List (List Rat)}
theorem red_low(h:SmE k R)(hl:R.length=n)(hrow:∀ i,i<n->(R[i]?.getD []).length=m)(hnm:n<=m)(hp:posP (Zh R) n){i j:Nat}(hi:i<n)(hj:j<i):Zn (Zh R) i i j=0:=by
 obtain⟨⟨pc,G,s,h3⟩,h4⟩:=Zsa (B:=pw (k*m+k)) (S:=pw (k*m)) hl hrow (λi hi=>h.denAt (hrow i hi)) (λi j hi=>h.whole (hrow i hi) j) i Gk Gk (hp.mono Gk);rw[<- h4 i j hi];exact h3.low i j (Qb _) hi hj
end
section
variable{k n m:Nat}{R:List (List Rat)}
end
theorem Zk7(na nb:Bool)(A B:Option Addr)(n c m d:Nat)(za zb:Int)(w:World)(ha:Wd w na A n c za)(hb:Wd w nb B m d zb) :
    Calls Tryz.prog 119 #[.agg #[.bool na,.slice A n c],.agg #[.bool nb,.slice B m d]] w (ResW w (za+zb)):=by
 have aR:=ha.lim;have aG:=hb.lim;have hn:=ha.2.1;have hm:=hb.2.1;have y:∀ X Y Z V:Obj,Below w.heap.size w ((((w.alloc X).alloc Y).alloc Z).alloc V):=λX Y Z V=>((((Qk w.heap.size w).alloc (Qb _) _).alloc Gh _).alloc Gg _).alloc Gg _
 have hW:∀ X Y Z t,WL ((((w.alloc X).alloc Y).alloc Z).alloc (.cells #[.bool na,.slice A n c,.bool nb,.slice B m d] t)) (some ⟨w.heap.size+1+1+1,0,none⟩) 2 2 [⟨na,A,n,c,digits za.natAbs⟩,⟨nb,B,m,d,digits zb.natAbs⟩]:=λX Y Z t=>by
  exact Ch
 have hW:=Zb hW;have y:=Zb y;have u:Hid (okW na (digits za.natAbs)=true/\okW nb (digits zb.natAbs)=true):=⟨ha.ok,hb.ok⟩;have U:=Zb ha.sgEq;have a0:=Zb hb.sgEq;clear ha hb;go_in;go_wp2_with fail;refine(Zdk (hW.out _ _ _ _) (by have:=u.out;simp[WE.ok,this])).mono ?_;rintro e w1 ⟨rfl,ab⟩;obtain⟨f,T⟩:=Zc0 ab;have a1:w.heap.size+1+1+1<w1.heap.size:=by have:=ab.size;simp at this;omega
 have h:Below w.heap.size w w1:=(y.out _ _ _ _).trans (ab.mono Gg);have g0:w1.cell? ⟨w.heap.size,0,none⟩=some (.bool na):=by simp[f,go_sem]
 have g1:w1.cell? ⟨w.heap.size,1,none⟩=some (.slice A n c):=by simp[f,go_sem]
 have g2:w1.cell? ⟨w.heap.size+1,0,none⟩=some (.bool nb):=by simp[f,go_sem]
 have g3:w1.cell? ⟨w.heap.size+1,1,none⟩=some (.slice B m d):=by simp[f,go_sem]
 have gf:w1.frozen? ⟨w.heap.size+1,0,none⟩=false:=by simp[T,go_sem]
 have gB:Blk w1 (w.heap.size+1) 39 #[.bool nb,.slice B m d]:=by
  exact Cd
 have g7:Blk w1 (w.heap.size+1+1) 39 #[.bool false,.slice none 0 0]:=by
  refine Zc ab (Blk.alloc ?_ _);exact Ev
 have I:=aR.below h;have C:=aG.below h;have HB:=Zb gB;clear gB f T;go_wp2_with fail;refine(Zwu _ _ _ _ _ _ _ _ _ _ _ (by exact I) (by exact C) hn hm).mono ?_;rintro e w2 ⟨O,J,A2,n2,c2,o,rfl,dP⟩;have ax:Below w.heap.size w w2:=Gs h O;have m7:=Zc O g7;have m3:=m7.cell 0;have m4:=m7.cell 1;have m5:=m7.frozen 0;have m6:=m7.frozen 1;simp at m3 m4;have HM:=Zb m7;clear m7;go_wp2_with fail
 have HZ:sg na za.natAbs+sg nb zb.natAbs=za+zb:=by
  have h1:=U.out;have h2:=a0.out;rw[Zi]at h1 h2;rw[h1,h2]
 refine bodyPost_ret (v:=.tuple #[.agg #[.bool J,.slice A2 n2 c2],.int .i64 o]) (by simp[results,Tryz.results119,go_sem,m3,m4]) rfl ?_;exact Fh
theorem sm_addA{x y z v:Int}(hx:x.natAbs<pw 1000)(hy:y.natAbs<pw 1000)(hz:z.natAbs<pw 1000)(hv:v.natAbs<pw 1000):(x*y+z*v).natAbs<pw 4096:=by
 exact IR
theorem Z0a(a b:Rat):Rat.divInt (a.num*b.den+b.num*a.den) ((a.den:Int)*(b.den:Nat))=a+b:=by
 have ha:((a.den:Nat):Int)≠0:=by have:=a.den_pos;omega
 have hb:((b.den:Nat):Int)≠0:=by have:=b.den_pos;omega
 rw[<- Rat.divInt_add_divInt _ _ ha hb,Qo,Qo]
theorem Zul(x y:Value)(W:World):(callFunc 159 #[x,y]).run Tryz.prog W=.ok (.enter 159 #[x,y]) W:=by simp[go_sem]
theorem Add1_ok(na nb na' nb':Bool)(A B A' B':Option Addr)(n c m d n' c' m' d':Nat)(a b:Rat)(w:World)(ha:Fr w na A n c nb B m d a)(hb:Fr w na' A' n' c' nb' B' m' d' b)
    (h1:(a.num*b.den).natAbs<pw 4096) (h2:(b.num*a.den).natAbs<pw 4096) (hs:(a.num*b.den+b.num*a.den).natAbs<pw 4096) (ht:((a.den:Int)*(b.den:Nat)).natAbs<pw 4096) :
    Calls Tryz.prog 159 #[.agg #[.bool na,.slice A n c,.bool nb,.slice B m d],.agg #[.bool na',.slice A' n' c',.bool nb',.slice B' m' d']] w (Zpb w (a.num*b.den+b.num*a.den) ((a.den:Int)*(b.den:Nat))):=by
 obtain⟨W0,Y,T,⟨q0,q1,q2,q3⟩,s0⟩:=Zfs w 41 #[.bool na,.slice A n c,.bool nb,.slice B m d] 41 #[.bool na',.slice A' n' c',.bool nb',.slice B' m' d'] 39 #[.bool false,.slice none 0 0] 39 #[.bool false,.slice none 0 0];have hmx:=Gt;have hA:=Zb (ha.below T);have hD:=Zb (hb.below T);replace hs:=Zb hs;replace ht:=Zb ht;replace h1:=Zb h1;replace h2:=Zb h2;have sz:=Zb T.size;have hB:=Zb T;clear ha hb T s0;replace q0:=Zb q0;replace q1:=Zb q1;replace q2:=Zb q2;replace q3:=Zb q3;obtain⟨a0,a1,a2,a3,-⟩:=q0.out.four;obtain⟨b0,b1,b2,b3,-⟩:=q1.out.four;replace Y:=Zb Y;go_in;go_wp2_with fail;rw[Y.out];clear Y;refine Zy [19] (λW'=>W'.cell? ⟨w.heap.size,0,none⟩=some (.bool na)/\W'.cell? ⟨w.heap.size,1,none⟩=some (.slice A n c)/\W'.cell? ⟨w.heap.size,2,none⟩=some (.bool nb)/\W'.cell? ⟨w.heap.size,3,none⟩=some (.slice B m d)/\W'.cell? ⟨w.heap.size+1,0,none⟩=some (.bool na')/\W'.cell? ⟨w.heap.size+1,1,none⟩=some (.slice A' n' c')/\W'.cell? ⟨w.heap.size+1,2,none⟩=some (.bool nb')/\W'.cell? ⟨w.heap.size+1,3,none⟩=some (.slice B' m' d')) hmx ⟨a0,a1,a2,a3,b0,b1,b2,b3⟩ (λ_=>?_);refine Zj9 8 [0,1,3,4,10,11,12,13] rfl Gi ⟨a0,a1,a2,a3,b0,b1,b2,b3⟩ ?_
 iterate 8 (refine tkA ?_;try simp only[Qe,Zhb,Zgo,Zg6,Gr,Gq,Gp])
 refine tk0 ?_;refine wpAnyL_o 2 λK hK=>?_;go_simp;refine(Zfg na nb na' nb' A B A' B' n c m d n' c' m' d' a b W0.drew hA.out hD.out h1.out).mono ?_;rintro e w1 ⟨h,nu,U,k1,u,rfl,hU⟩;replace h:=Zu h;replace hU:=Zb hU;replace q0:=Gm h q0;replace q1:=Gm h q1;replace q2:=Gm h q2;replace q3:=Gm h q3;replace hA:=Zb (hA.out.below h);replace hD:=Zb (hD.out.below h);replace hB:=Zb (hB.out.trans (h.mono sz.out));replace sz:=Zb (Qa sz.out h.size);clear a0 a1 a2 a3 b0 b1 b2 b3;obtain⟨a0,a1,a2,a3,-⟩:=q0.out.four;obtain⟨b0,b1,b2,b3,-⟩:=q1.out.four;clear h;refine hK.out _ _ (λ_=>⟨a0,a1,a2,a3,b0,b1,b2,b3⟩) ?_;clear hK K
 try simp only[Qe,Zhb,Zgo,Zg6]
 refine wpAnyL_o 5 λK hK=>?_;go_simp;refine(Zfg na' nb' na nb A' B' A B n' c' m' d' n c m d b a w1 hD.out hA.out h2.out).mono ?_;rintro e w2 ⟨y,nv,V,k2,v,rfl,hV⟩;replace hU:=Zb (hU.out.below y);replace hV:=Zb hV;replace q0:=Gm y q0;replace q1:=Gm y q1;replace q2:=Gm y q2;replace q3:=Gm y q3;replace hA:=Zb (hA.out.below y);replace hD:=Zb (hD.out.below y);replace hB:=Zb (hB.out.trans (y.mono sz.out));replace sz:=Zb (Qa sz.out y.size);clear a0 a1 a2 a3 b0 b1 b2 b3;obtain⟨a0,a1,a2,a3,-⟩:=q0.out.four;obtain⟨b0,b1,b2,b3,-⟩:=q1.out.four;clear y;refine hK.out _ _ (λ_=>⟨a0,a1,a2,a3,b0,b1,b2,b3⟩) ?_;clear hK K
 try simp only[Qe,Zhb,Zgo,Zg6]
 refine wpAnyL_o 6 λK hK=>?_;go_simp;refine(Zk7 nu nv U V k1 u k2 v _ _ w2 hU.out hV.out).mono ?_;rintro e w3 ⟨I,np,P,k,q,code,rfl,hR⟩;have hP:=Zb (hR.small hs.out);have O:=hR.code0 hs.out;subst O;clear hs hR hU hV;replace q0:=Gm I q0;replace q1:=Gm I q1;replace q2:=Gm I q2;replace q3:=Gm I q3;replace hA:=Zb (hA.out.below I);replace hD:=Zb (hD.out.below I);replace hB:=Zb (hB.out.trans (I.mono sz.out));replace sz:=Zb (Qa sz.out I.size);clear a0 a1 a2 a3 b0 b1 b2 b3;obtain⟨a0,a1,a2,a3,-⟩:=q0.out.four;obtain⟨b0,b1,b2,b3,-⟩:=q1.out.four;clear I;refine hK.out _ _ (λ_=>⟨a0,a1,a2,a3,b0,b1,b2,b3⟩) ?_;clear hK K
 try simp only[Qe,Zhb,Zgo,Zg6]
 refine Zj9 2 [7,8] rfl Gi ⟨a0,a1,a2,a3,b0,b1,b2,b3⟩ ?_
 iterate 2 (refine tkA ?_;try simp only[Qe,Zhb,Zgo,Zg6,Gr,Gq,Gp])
 refine tk0 ?_;refine wpAnyL_o 9 λK hK=>?_;go_simp;refine(Zd0 np P k q w3).mono ?_;rintro e w4 ⟨rfl,C⟩;replace hP:=Zb (hP.out.below C);replace q0:=Gm C q0;replace q1:=Gm C q1;replace q2:=Gm C q2;replace q3:=Gm C q3;replace hA:=Zb (hA.out.below C);replace hD:=Zb (hD.out.below C);replace hB:=Zb (hB.out.trans (C.mono sz.out));replace sz:=Zb (Qa sz.out C.size);clear a0 a1 a2 a3 b0 b1 b2 b3;obtain⟨a0,a1,a2,a3,-⟩:=q0.out.four;obtain⟨b0,b1,b2,b3,-⟩:=q1.out.four;clear C;refine hK.out _ _ (λ_=>⟨a0,a1,a2,a3,b0,b1,b2,b3⟩) ?_;clear hK K
 try simp only[Qe,Zhb,Zgo,Zg6]
 refine wpAnyL_o 14 λK hK=>?_;go_simp;refine(Zjd nb nb' B B' m d m' d' a.den b.den w4 hA.out.2 hD.out.2).mono ?_;rintro e w5 ⟨o,a4,P',k',q',code,rfl,hR⟩;replace hP:=Zb (hP.out.below o);have J:=Zb (hR.small ht.out);have O:=hR.code0 ht.out;subst O;clear ht hR;replace q0:=Gm o q0;replace q1:=Gm o q1;replace q2:=Gm o q2;replace q3:=Gm o q3;replace hA:=Zb (hA.out.below o);replace hD:=Zb (hD.out.below o);replace hB:=Zb (hB.out.trans (o.mono sz.out));replace sz:=Zb (Qa sz.out o.size);clear a0 a1 a2 a3 b0 b1 b2 b3;obtain⟨a0,a1,a2,a3,-⟩:=q0.out.four;obtain⟨b0,b1,b2,b3,-⟩:=q1.out.four;clear o;refine hK.out _ _ (λ_=>⟨a0,a1,a2,a3,b0,b1,b2,b3⟩) ?_;clear hK K
 try simp only[Qe,Zhb,Zgo,Zg6]
 refine Zj9 2 [15,16] rfl Gi ⟨a0,a1,a2,a3,b0,b1,b2,b3⟩ ?_
 iterate 2 (refine tkA ?_;try simp only[Qe,Zhb,Zgo,Zg6,Gr,Gq,Gp])
 refine tk0 ?_;refine wpAnyL_o 17 λK hK=>?_;go_simp;refine(Zd0 a4 P' k' q' w5).mono ?_;rintro e w6 ⟨rfl,f⟩;replace hP:=Zb (hP.out.below f);replace J:=Zb (J.out.below f);replace q0:=Gm f q0;replace q1:=Gm f q1;replace q2:=Gm f q2;replace q3:=Gm f q3;replace hA:=Zb (hA.out.below f);replace hD:=Zb (hD.out.below f);replace hB:=Zb (hB.out.trans (f.mono sz.out));replace sz:=Zb (Qa sz.out f.size);clear a0 a1 a2 a3 b0 b1 b2 b3;obtain⟨a0,a1,a2,a3,-⟩:=q0.out.four;obtain⟨b0,b1,b2,b3,-⟩:=q1.out.four;clear f;obtain⟨x0,x1,f0,f1⟩:=q2.out.two;refine hK.out _ _ (λ_=>⟨a0,a1,a2,a3,b0,b1,b2,b3⟩) ?_;clear hK K
 try simp only[Qe,Zhb,Zgo,Zg6]
 refine wpAnyL_o 18 λK hK=>?_;go_simp;obtain⟨W5,a7,a8,a5,kW,kB,s5⟩:=Zau np P k q hB.out Gk q2.out;rw[a7];clear a7 x0 x1 f0 f1 a0 a1 a2 a3 b0 b1 b2 b3 hA hD;replace q0:=kB _ _ _ Gk q0.out;replace q1:=kB _ _ _ Gk q1.out;obtain⟨a0,a1,a2,a3,-⟩:=q0.four;obtain⟨b0,b1,b2,b3,-⟩:=q1.four;replace q3:=Zb (kB _ _ _ Gk q3.out);replace hP:=Zb (kW _ _ _ _ _ hP.out);replace J:=Zb (kW _ _ _ _ _ J.out);clear kW kB q2 hB q0 q1;obtain⟨y0,y1,g0,g1⟩:=q3.out.two;refine hK.out _ _ (λ_=>⟨a0,a1,a2,a3,b0,b1,b2,b3⟩) ?_;clear hK K
 try simp only[Qe,Zhb,Zgo,Zg6]
 refine Zv (i:=19) rfl Gi Gi (λK hK=>?_);go_simp;obtain⟨W6,a6,b4,a9,kW,kB,s6⟩:=Zau a4 P' k' q' a8 Gk q3.out;rw[a6];clear a6 y0 y1 g0 g1 a0 a1 a2 a3 b0 b1 b2 b3;replace a5:=kB _ _ _ Gk a5;replace hP:=Zb (kW _ _ _ _ _ hP.out);replace J:=Zb (kW _ _ _ _ _ J.out);clear kW kB q3 a8;refine hK.out _ _ ?_;clear hK K
 try simp only[Qe,Zhb,Zgo,Zg6]
 refine wpAnyL_fin ?_;obtain⟨r0,r1,-⟩:=a5.two;obtain⟨r2,r3,-⟩:=a9.two;go_wp2_with fail;refine bodyPost_ret (v:=.tuple #[.agg #[.bool np,.slice P k q],.agg #[.bool a4,.slice P' k' q']]) (by simp[results,Tryz.results159,go_sem,r0,r1,r2,r3]) rfl ?_;exact⟨b4,_,_,_,_,_,_,_,_,rfl,hP.out,J.out⟩
theorem fAdd_ok(na nb na' nb':Bool)(A B A' B':Option Addr)(n c m d n' c' m' d':Nat)(a b:Rat)(w:World)(ha:Fr w na A n c nb B m d a)(hb:Fr w na' A' n' c' nb' B' m' d' b)(sa:Sm a)(sb:Sm b) :
    Calls Tryz.prog 115 #[.agg #[.bool na,.slice A n c,.bool nb,.slice B m d],.agg #[.bool na',.slice A' n' c',.bool nb',.slice B' m' d']] w (Zfi w (a+b)):=by
 obtain⟨W0,u,f,⟨q0,q1,q2⟩,s0⟩:=Zcd w 41 #[.bool na,.slice A n c,.bool nb,.slice B m d] 41 #[.bool na',.slice A' n' c',.bool nb',.slice B' m' d'] 41 #[.bool false,.slice none 0 0,.bool false,.slice none 0 0];have hA:=Zb (ha.below f);have hD:=Zb (hb.below f);have hF:=λ(W:World) (h1:Fr W na A n c nb B m d a) (h2:Fr W na' A' n' c' nb' B' m' d' b)=>Add1_ok na nb na' nb' A B A' B' n c m d n' c' m' d' a b W h1 h2 (Zbr sa.1 sb.dn) (Zbr sb.1 sa.dn) (sm_addA sa.1 sb.dn sb.1 sa.dn) (Zbr sa.dn sb.dn);have hG:=Zb (Zqi 159 na nb na' nb' A B A' B' n c m d n' c' m' d' a b _ _ W0 hA.out hD.out (Zck a b) Zul hF);rw[Z0a]at hG;clear hF ha hb sa sb hA hD;obtain⟨a0,a1,a2,a3,-⟩:=q0.four;obtain⟨b0,b1,b2,b3,-⟩:=q1.four;replace q2:=Zb q2;clear q0 q1;go_in;go_wp2_with fail;refine hG.out.mono ?_;rintro e w1 ⟨h,nx,Ax,kx,cx,ny,Ay,ky,cy,rfl,hX⟩;have o:Below w.heap.size w w1:=Gs f h;have s1:W0.heap.size<=w1.heap.size:=h.size;replace q2:=Gm h q2;replace hX:=Zb hX;clear h a0 a1 a2 a3 b0 b1 b2 b3 f hG u;obtain⟨Y,U,V,T,O,C,J,I⟩:=q2.out.four;go_wp2_with fail;obtain⟨W5,y,aJ,q2,kW,-,s5⟩:=Zaa nx Ax kx cx ny Ay ky cy o Gk q2.out;rw[y];obtain⟨r0,r1,r2,r3,-⟩:=q2.four;refine bodyPost_ret (v:=.tuple #[.agg #[.bool nx,.slice Ax kx cx,.bool ny,.slice Ay ky cy],.int .i64 0]) (by simp[results,Tryz.results115,go_sem,r0,r1,r2,r3]) rfl ?_;exact FY
theorem El{G:Prop}(h:G:=by
 have ab:Blk (w.setCell ⟨g,0,none⟩ (.bool na)) g t #[.bool na,.slice A0 n0 c0,.bool b0,.slice B0 m0 d0]:=hb.set_ 0 (.bool na);have aa:Blk ((w.setCell ⟨g,0,none⟩ (.bool na)).setCell ⟨g,1,none⟩ (.slice A n c)) g t #[.bool na,.slice A n c,.bool b0,.slice B0 m0 d0]:=ab.set_ 1 (.slice A n c);have ah:Blk (((w.setCell ⟨g,0,none⟩ (.bool na)).setCell ⟨g,1,none⟩ (.slice A n c)).setCell ⟨g,2,none⟩ (.bool nb)) g t #[.bool na,.slice A n c,.bool nb,.slice B0 m0 d0]:=aa.set_ 2 (.bool nb);have cP:Blk ((((w.setCell ⟨g,0,none⟩ (.bool na)).setCell ⟨g,1,none⟩ (.slice A n c)).setCell ⟨g,2,none⟩ (.bool nb)).setCell ⟨g,3,none⟩ (.slice B m d)) g t #[.bool na,.slice A n c,.bool nb,.slice B m d]:=ah.set_ 3 (.slice B m d);have k0:Kept (λk=>k=g) w w:=Kept.refl _ _;exact⟨_,rfl,cP,(((k0.set_ (p:=⟨g,0,none⟩) (.inl rfl) _).set_ (p:=⟨g,1,none⟩) (.inl rfl) _).set_ (p:=⟨g,2,none⟩) (.inl rfl) _).set_ (p:=⟨g,3,none⟩) (.inl rfl) _,by simp⟩):G:=h
theorem Za0{t:TypeId}{w:World}{g:Nat}{a0:Bool}{A0:Option Addr}{n0 c0:Nat}{b0:Bool}{B0:Option Addr}{m0 d0:Nat}(na:Bool)(A:Option Addr)(n c:Nat)(nb:Bool)(B:Option Addr)(m d:Nat)(hb:Blk w g t #[.bool a0,.slice A0 n0 c0,.bool b0,.slice B0 m0 d0]) :
    ∃ W,(((w.setCell ⟨g,0,none⟩ (.bool na)).setCell ⟨g,1,none⟩ (.slice A n c)).setCell ⟨g,2,none⟩ (.bool nb)).setCell ⟨g,3,none⟩ (.slice B m d)=W/\Blk W g t #[.bool na,.slice A n c,.bool nb,.slice B m d]/\Kept (λk=>k=g) w W/\W.heap.size=w.heap.size:=by
 exact El
theorem Fr.keptN{w w':World}{na:Bool}{A:Option Addr}{n c:Nat}{nb:Bool}{B:Option Addr}{m d:Nat}{r:Rat}{g:Nat}{t:TypeId}{cs:Array Value}(h:Fr w na A n c nb B m d r)(hk:Kept (λk=>k=g) w w')(hb:Blk w g t cs)(hn:NoLimb cs):Fr w' na A n c nb B m d r:=
 ⟨hk.wd h.1 (λk e=>by cases e;exact⟨_,_,hb,hn⟩),hk.wd h.2 (λk e=>by cases e;exact⟨_,_,hb,hn⟩)⟩
theorem Zbh(a:Bool)(A:Option Addr)(n c:Nat)(b:Bool)(B:Option Addr)(m d:Nat):NoLimb #[.bool a,.slice A n c,.bool b,.slice B m d]:=λi x=>by
 match i with
 | 0=>simp
 | 1=>simp
 | 2=>simp
 | 3=>simp
 | i+4=>simp
theorem Zb9(x:Int)(w:World) :
    Calls Tryz.prog 40 #[.bool true,.int .i64 x] w λe w'=>e=.returned (.tuple #[])/\w'=w:=by
 go_in;go_wp2_with fail
 go_end0
 exact⟨rfl,rfl⟩
theorem Za5(x:Int)(w:World) :
    Calls Tryz.prog 40 #[.bool false,.int .i64 x] w λe w'=>e=.panicked [{ v:=.iface 117 (.agg #[.int .i64 x]),recovered:=false }]/\w'=w:=by
 go_in;go_wp2_with fail;exact⟨rfl,rfl,rfl⟩
theorem Zet(p:Addr)(w:World) :
    CallsD Tryz.prog 39 #[.pointer (some p)] .returning w λe u' w'=>e=.returned (.tuple #[])/\u'=.returning/\w'=w:=by
 refine callsD_of_wpS Tryz.func39 rfl λc₀ cs hu=>?_;apply wpS_seq;apply wpS_region;simp[wpOpsS,go_sem,recoverD,hu,Tryz.ntmps39,Exit.thenS];rw[show (#[Value.pointer (some p)]++(Qu 14 undef).setIfInBounds 4 Value.nilIface)=#[Value.pointer (some p),undef,undef,undef,undef,Value.nilIface,undef,undef,undef,undef,undef,undef,undef,undef,undef] from rfl];refine wpS_of_wp ?_;go_wp2_with fail;cases c₀
 simp_all [bodyPostS,results,Tryz.results39]
theorem Z0g(x:Int)(w:World):(Instr.typeAssert (.iface 117 (.agg #[.int .i64 x])) 20 117 true).run Tryz.prog w=.ok (.tuple #[.agg #[.int .i64 x],.bool true]) w:=by kernel_rfl
theorem Zbg(p:Addr)(x y:Int)(w:World)(hc:w.cell? p=some (.int .i64 y))(hz:w.frozen? p=false) :
    CallsD Tryz.prog 39 #[.pointer (some p)] (.panicking [{ v:=.iface 117 (.agg #[.int .i64 x]),recovered:=false }]) w λe u' w' =>
     e=.returned (.tuple #[])/\u'=.panicking [{ v:=.iface 117 (.agg #[.int .i64 x]),recovered:=true }]/\w'=(w.alloc (.cells #[.int .i64 x] 117)).setCell p (.int .i64 x):=by
 have f:=Zo hc;have o:(w.alloc (.cells #[.int .i64 x] 117)).cell? p=some (.int .i64 y):=by rw[World.cell?_alloc_lt _ _ _ f];exact hc
 have h:(w.alloc (.cells #[.int .i64 x] 117)).frozen? p=false:=by exact((Qk w.heap.size w).alloc (Qb _) _ |>.frozen f).trans hz
 have u:=Z0g x;refine callsD_of_wpS Tryz.func39 rfl λc₀ cs hu=>?_;apply wpS_seq;apply wpS_region;simp[wpOpsS,go_sem,recoverD,hu,Tryz.ntmps39,Exit.thenS];rw[show (#[Value.pointer (some p)]++(Qu 14 undef).setIfInBounds 4 (Value.iface 117 (.agg #[.int .i64 x])))=#[Value.pointer (some p),undef,undef,undef,undef,Value.iface 117 (.agg #[.int .i64 x]),undef,undef,undef,undef,undef,undef,undef,undef,undef] from rfl];refine wpS_of_wp ?_;go_wp2_with fail;simp[bodyPostS,results,Tryz.results39]
theorem Zf7(na nb:Bool)(A B:Option Addr)(n c m d:Nat)(q:Rat)(w:World)(h:Fr w na A n c nb B m d q) :
    Calls Tryz.prog 84 #[.agg #[.bool na,.slice A n c,.bool nb,.slice B m d],.int .i64 0] w (Zdt w q):=by
 obtain⟨W0,y,o,⟨q0,q1⟩,s0⟩:=Zdb w 41 #[.bool na,.slice A n c,.bool nb,.slice B m d] 73 #[.bool false,.slice none 0 0,.bool false,.slice none 0 0];obtain⟨a0,a1,a2,a3,-⟩:=q0.four;obtain⟨gR,u⟩:=Gz (w.heap.size+1);rw[u]at q1;have h0:=h.below o;go_in;go_wp2_with fail;(try rw[y]);refine(Zb9 0 W0).mono ?_;rintro e w1 ⟨rfl,rfl⟩;(try rw[u]);obtain⟨c0,c1,c2,c3,z0,z1,z2,z3⟩:=q1.four;obtain⟨W5,C,q5,f,s5⟩:=Za0 na A n c nb B m d q1;go_wp2_with fail;(try rw[C]);obtain⟨r0,r1,r2,r3,-⟩:=q5.four;refine bodyPost_ret (v:=.agg #[.bool na,.slice A n c,.bool nb,.slice B m d]) (by simp[results,Tryz.results84,go_sem,r0,r1,r2,r3]) rfl ?_;refine⟨?_,_,_,_,_,_,_,_,_,rfl,h0.keptN f q1 (Zbh _ _ _ _ _ _ _ _)⟩;exact o.trans (f.to_below (λk e=>by omega) Gk)
theorem Fg{G:Prop}(h:G:=by
 have ax:=aq.trans ((Gs ab aa).mono aq.size);exact ax.trans (aK.to_below (λk e=>by omega) ax.size)):G:=h
theorem CE{G:Prop}(h:G:=by
 refine⟨?_,_,_,_,_,_,_,_,_,rfl,hr.keptN aK q2 (Zbh _ _ _ _ _ _ _ _)⟩;exact Fg):G:=h
theorem Ze2(na nb na' nb':Bool)(A B A' B':Option Addr)(n c m d n' c' m' d':Nat)(a b:Rat)(w:World)(ha:Fr w na A n c nb B m d a)(hb:Fr w na' A' n' c' nb' B' m' d' b)(sa:Sm a)(sb:Sm b) :
    Calls Tryz.prog 71 #[.agg #[.bool na,.slice A n c,.bool nb,.slice B m d],.agg #[.bool na',.slice A' n' c',.bool nb',.slice B' m' d']] w (Zdt w (a-b)):=by
 obtain⟨W0,h,aq,⟨q0,q1,q2⟩,s0⟩:=Zcd w 73 #[.bool na,.slice A n c,.bool nb,.slice B m d] 73 #[.bool na',.slice A' n' c',.bool nb',.slice B' m' d'] 73 #[.bool false,.slice none 0 0,.bool false,.slice none 0 0];obtain⟨a0,a1,a2,a3,-⟩:=q0.four;obtain⟨b0,b1,b2,b3,-⟩:=q1.four;obtain⟨gR,f⟩:=Gz (w.heap.size+1+1);rw[f]at q2;have hA:=ha.below aq;have hD:=hb.below aq;go_in;go_wp2_with fail;(try rw[h]);refine(Zwr na nb na' nb' A B A' B' n c m d n' c' m' d' a b W0 hA hD sa sb).mono ?_;rintro e w1 ⟨ab,pn,pA,pk,pc,pm,pB,pj,pd,rfl,hf⟩;replace q2:=Zc ab q2;clear a0 a1 a2 a3 b0 b1 b2 b3 q0 q1 hA hD;go_wp2_with fail;refine(Zf7 pn pm pA pB pk pc pj pd _ w1 hf).mono ?_;rintro e w2 ⟨aa,rn,rA,rk,rc,rm,rB,rj,rd,rfl,hr⟩;replace q2:=Zc aa q2;(try rw[f]);obtain⟨c0,c1,c2,c3,z0,z1,z2,z3⟩:=q2.four;obtain⟨W5,o,q5,aK,s5⟩:=Za0 rn rA rk rc rm rB rj rd q2;clear hf;go_wp2_with fail;(try rw[o]);obtain⟨r0,r1,r2,r3,-⟩:=q5.four;refine bodyPost_ret (v:=.agg #[.bool rn,.slice rA rk rc,.bool rm,.slice rB rj rd]) (by simp[results,Tryz.results71,go_sem,r0,r1,r2,r3]) rfl ?_;exact CE
theorem ES{G:Prop}(h:G:=by
 refine⟨?_,_,_,_,_,_,_,_,_,rfl,hr.out⟩;have cf:=cw.trans ((Gs ab ax.out).mono cw.size);exact cf.trans (aK.to_below (λk e=>by omega) cf.size)):G:=h
theorem Zlw(xn:Bool)(xA:Option Addr)(xk xc:Nat)(xm:Bool)(xB:Option Addr)(xj xd:Nat)(yn:Bool)(yA:Option Addr)(yk yc:Nat)(ym:Bool)(yB:Option Addr)(yj yd:Nat)(a b:Rat)(w:World)(ha:Fr w xn xA xk xc xm xB xj xd a)(hb:Fr w yn yA yk yc ym yB yj yd b)(sa:Sm a)(sb:Sm b) :
    Calls Tryz.prog 96 #[.agg #[.bool xn,.slice xA xk xc,.bool xm,.slice xB xj xd],.agg #[.bool yn,.slice yA yk yc,.bool ym,.slice yB yj yd]] w (Zdt w (a-b)):=by
 obtain⟨W0,J,h,⟨q0,q1,q2⟩,s0⟩:=Zcd w 41 #[.bool xn,.slice xA xk xc,.bool xm,.slice xB xj xd] 41 #[.bool yn,.slice yA yk yc,.bool ym,.slice yB yj yd] 41 #[.bool false,.slice none 0 0,.bool false,.slice none 0 0];obtain⟨a0,a1,a2,a3,-⟩:=q0.four;obtain⟨b0,b1,b2,b3,-⟩:=q1.four;obtain⟨gR,y⟩:=Gz (w.heap.size+1+1);rw[y]at q2;have hA:=ha.below h;have hD:=hb.below h;go_in;go_wp2_with fail;(try rw[J]);refine(Zyb xn xm yn ym xA xB yA yB xk xc xj xd yk yc yj yd a b W0 hA hD sa sb).mono ?_;rintro e w1 ⟨ab,pn,pA,pk,pc,pm,pB,pj,pd,rfl,hf⟩;replace q2:=Zc ab q2;clear a0 a1 a2 a3 b0 b1 b2 b3 q0 q1 hA hD;obtain⟨V1,V,o,t0,tz⟩:=Zan w1 41 #[.bool false,.slice none 0 0,.bool false,.slice none 0 0];have Y:=Zc o q2;obtain⟨gn,u⟩:=Gz w1.heap.size
 have U:gR<gn:=by
  have h1:=ab.size;omega
 rw[u]at t0;obtain⟨u0,u1,u2,u3,v0,v1,v2,v3⟩:=t0.four;obtain⟨V2,T,p2,I,s2⟩:=Za0 pn pA pk pc pm pB pj pd t0;have ax:Below w1.heap.size w1 V2:=o.trans (I.to_below (λk e=>by omega) o.size);have f:=Zc ax q2;have C:=hf.below ax;obtain⟨o0,o1,o2,o3,-⟩:=p2.four;obtain⟨c0,c1,c2,c3,z0,z1,z2,z3⟩:=f.four;obtain⟨W5,O,q5,aK,s5⟩:=Za0 pn pA pk pc pm pB pj pd f;have hr:=C.keptN aK f (Zbh _ _ _ _ _ _ _ _);have cw:=h;replace ax:=Zb ax;replace hr:=Zb hr;clear hf C;go_wp2_with fail;(try rw[u]);(try rw[T]);(try rw[y]);go_wp2_with fail;(try rw[O]);obtain⟨r0,r1,r2,r3,-⟩:=q5.four;refine bodyPost_ret (v:=.agg #[.bool pn,.slice pA pk pc,.bool pm,.slice pB pj pd]) (by simp[results,Tryz.results96,go_sem,r0,r1,r2,r3]) rfl ?_;exact ES
theorem Zlr(xn:Bool)(xA:Option Addr)(xk xc:Nat)(xm:Bool)(xB:Option Addr)(xj xd:Nat)(yn:Bool)(yA:Option Addr)(yk yc:Nat)(ym:Bool)(yB:Option Addr)(yj yd:Nat)(a b:Rat)(w:World)(ha:Fr w xn xA xk xc xm xB xj xd a)(hb:Fr w yn yA yk yc ym yB yj yd b)(sa:Sm a)(sb:Sm b) :
    Calls Tryz.prog 49 #[.agg #[.bool xn,.slice xA xk xc,.bool xm,.slice xB xj xd],.agg #[.bool yn,.slice yA yk yc,.bool ym,.slice yB yj yd]] w (Zdt w (a*b)):=by
 obtain⟨W0,J,h,⟨q0,q1,q2⟩,s0⟩:=Zcd w 41 #[.bool xn,.slice xA xk xc,.bool xm,.slice xB xj xd] 41 #[.bool yn,.slice yA yk yc,.bool ym,.slice yB yj yd] 41 #[.bool false,.slice none 0 0,.bool false,.slice none 0 0];obtain⟨a0,a1,a2,a3,-⟩:=q0.four;obtain⟨b0,b1,b2,b3,-⟩:=q1.four;obtain⟨gR,y⟩:=Gz (w.heap.size+1+1);rw[y]at q2;have hA:=ha.below h;have hD:=hb.below h;go_in;go_wp2_with fail;(try rw[J]);refine(Zo0 xn xm yn ym xA xB yA yB xk xc xj xd yk yc yj yd a b W0 hA hD sa sb).mono ?_;rintro e w1 ⟨ab,pn,pA,pk,pc,pm,pB,pj,pd,rfl,hf⟩;replace q2:=Zc ab q2;clear a0 a1 a2 a3 b0 b1 b2 b3 q0 q1 hA hD;obtain⟨V1,V,o,t0,tz⟩:=Zan w1 41 #[.bool false,.slice none 0 0,.bool false,.slice none 0 0];have Y:=Zc o q2;obtain⟨gn,u⟩:=Gz w1.heap.size
 have U:gR<gn:=by
  have h1:=ab.size;omega
 rw[u]at t0;obtain⟨u0,u1,u2,u3,v0,v1,v2,v3⟩:=t0.four;obtain⟨V2,T,p2,I,s2⟩:=Za0 pn pA pk pc pm pB pj pd t0;have ax:Below w1.heap.size w1 V2:=o.trans (I.to_below (λk e=>by omega) o.size);have f:=Zc ax q2;have C:=hf.below ax;obtain⟨o0,o1,o2,o3,-⟩:=p2.four;obtain⟨c0,c1,c2,c3,z0,z1,z2,z3⟩:=f.four;obtain⟨W5,O,q5,aK,s5⟩:=Za0 pn pA pk pc pm pB pj pd f;have hr:=C.keptN aK f (Zbh _ _ _ _ _ _ _ _);have cw:=h;replace ax:=Zb ax;replace hr:=Zb hr;clear hf C;go_wp2_with fail;(try rw[u]);(try rw[T]);(try rw[y]);go_wp2_with fail;(try rw[O]);obtain⟨r0,r1,r2,r3,-⟩:=q5.four;refine bodyPost_ret (v:=.agg #[.bool pn,.slice pA pk pc,.bool pm,.slice pB pj pd]) (by simp[results,Tryz.results49,go_sem,r0,r1,r2,r3]) rfl ?_;exact ES
theorem Zmi(xn:Bool)(xA:Option Addr)(xk xc:Nat)(xm:Bool)(xB:Option Addr)(xj xd:Nat)(yn:Bool)(yA:Option Addr)(yk yc:Nat)(ym:Bool)(yB:Option Addr)(yj yd:Nat)(a b:Rat)(w:World)(ha:Fr w xn xA xk xc xm xB xj xd a)(hb:Fr w yn yA yk yc ym yB yj yd b)(sa:Sm a)(sb:Sm b)(h0:b≠0) :
    Calls Tryz.prog 95 #[.agg #[.bool xn,.slice xA xk xc,.bool xm,.slice xB xj xd],.agg #[.bool yn,.slice yA yk yc,.bool ym,.slice yB yj yd]] w (Zdt w (a/b)):=by
 obtain⟨W0,J,h,⟨q0,q1,q2⟩,s0⟩:=Zcd w 41 #[.bool xn,.slice xA xk xc,.bool xm,.slice xB xj xd] 41 #[.bool yn,.slice yA yk yc,.bool ym,.slice yB yj yd] 41 #[.bool false,.slice none 0 0,.bool false,.slice none 0 0];obtain⟨a0,a1,a2,a3,-⟩:=q0.four;obtain⟨b0,b1,b2,b3,-⟩:=q1.four;obtain⟨gR,y⟩:=Gz (w.heap.size+1+1);rw[y]at q2;have hA:=ha.below h;have hD:=hb.below h;go_in;go_wp2_with fail;(try rw[J]);refine(Z02 xn xm yn ym xA xB yA yB xk xc xj xd yk yc yj yd a b W0 hA hD sa sb h0).mono ?_;rintro e w1 ⟨ab,pn,pA,pk,pc,pm,pB,pj,pd,rfl,hf⟩;replace q2:=Zc ab q2;clear a0 a1 a2 a3 b0 b1 b2 b3 q0 q1 hA hD;obtain⟨V1,V,o,t0,tz⟩:=Zan w1 41 #[.bool false,.slice none 0 0,.bool false,.slice none 0 0];have Y:=Zc o q2;obtain⟨gn,u⟩:=Gz w1.heap.size
 have U:gR<gn:=by
  have h1:=ab.size;omega
 rw[u]at t0;obtain⟨u0,u1,u2,u3,v0,v1,v2,v3⟩:=t0.four;obtain⟨V2,T,p2,I,s2⟩:=Za0 pn pA pk pc pm pB pj pd t0;have ax:Below w1.heap.size w1 V2:=o.trans (I.to_below (λk e=>by omega) o.size);have f:=Zc ax q2;have C:=hf.below ax;obtain⟨o0,o1,o2,o3,-⟩:=p2.four;obtain⟨c0,c1,c2,c3,z0,z1,z2,z3⟩:=f.four;obtain⟨W5,O,q5,aK,s5⟩:=Za0 pn pA pk pc pm pB pj pd f;have hr:=C.keptN aK f (Zbh _ _ _ _ _ _ _ _);have cw:=h;replace ax:=Zb ax;replace hr:=Zb hr;clear hf C;go_wp2_with fail;(try rw[u]);(try rw[T]);(try rw[y]);go_wp2_with fail;(try rw[O]);obtain⟨r0,r1,r2,r3,-⟩:=q5.four;refine bodyPost_ret (v:=.agg #[.bool pn,.slice pA pk pc,.bool pm,.slice pB pj pd]) (by simp[results,Tryz.results95,go_sem,r0,r1,r2,r3]) rfl ?_;exact ES
theorem Zov(A:Option Addr)(n c:Nat)(es:List FX)(w:World)(h:FXL w A n c es)(b:Bool)(hb:Zci es=b) :
    Calls Tryz.prog 56 #[.slice A n c] w λe w'=>e=.returned (.bool b)/\Below w.heap.size w w':=by
 have hl:=h.1;have a9:=h.2.1;have Y:=h.2.2.1;unfold maxLen at Y;replace hl:=Zb hl;replace hb:=Zb hb;replace h:=Zb h;go_in;go_wp2_with fail
 go_loopw [3] (λiv wr=>∃ i:Nat,i<=n/\iv=.int .i64 i/\Hid (∀ j e,j<i->es[j]?=some e->e.fine64=true)/\Below w.heap.size w wr) (λiv _=>n-(intOf iv).toNat)
 case atStart=>exact⟨0,Qr _,rfl,Zb (λj e hj=>by omega),Qk _ _⟩
 case round =>
  obtain⟨i,a8,rfl,au,u⟩:=hrel;by_cases hin:i<n
  case neg =>
   obtain rfl:n=i:=Gk;have a0:decide ((n:Int)<(n:Int))=false:=Gh
   obtain rfl:b=true:=by
    rw[<- hb.out];unfold Zci;exact Eb
   go_wp2_with fail;go_ret;exact⟨rfl,u⟩
  have a0:decide ((i:Int)<(n:Int))=true:=Gv Gk;obtain⟨g,o,e,rfl,he,hc,I,C⟩:=(h.out.below u).at_ hin;obtain⟨c0,c1,c2,c3⟩:=hc;have a5:=I.2.1;have V:=I.2.2.1;have a4:=C.2.1;have y:=C.2.2.1;have J:=Qa a5 V;have O:=Qa a4 y;unfold maxLen at V y
  have bad:e.fine64=false->b=false:=λhf=>by
   rw[<- hb.out];unfold Zci;rw[List.all_eq_false];exact⟨e,Ql he,by rw[hf];decide⟩
  replace bad:=Zb bad;have hF:=Zb (λW1=>Zlz e.na e.nb e.A e.B e.n e.c e.m e.d W1 J O);obtain⟨x,hx⟩:=Gz e.ok;have hC:=Zb (λW1 (hb:Below wr.heap.size wr W1)=>Zlp e.na e.nb e.A e.B e.n e.c e.m e.d e.la e.lb W1 (I.below hb) (C.below hb) x hx);obtain⟨k,hk⟩:=Gz (max e.n e.m);have a7:k<=9223372036854775807:=by unfold maxLen at J O;omega
  rw[hk]at hF;replace hk:=Zb hk;clear I C J O;by_cases h1:64<k
  ·have t1:decide ((64:Int)<(k:Int))=true:=Gv Gk
   obtain rfl:b=false:=bad.out (by unfold FX.fine64 FX.few;rw[hk.out,Gu Gk];rfl);replace he:=Zb he;replace hx:=Zb hx;clear hC;go_wp2_with fail;refine(hF.out _).mono ?_;rintro e' w1 ⟨rfl,y⟩;go_wp2_with fail;go_ret;exact⟨rfl,(by first|exact Gs u y|exact(Zf u _).trans (y.mono u.size))⟩
  have t1:decide ((64:Int)<(k:Int))=false:=Gu Gk;cases x
  ·obtain rfl:b=false:=bad.out (by unfold FX.fine64;rw[hx];simp)
   replace he:=Zb he;clear hx;go_wp2_with fail;refine(hF.out _).mono ?_;rintro e' w1 ⟨rfl,f⟩;have a1:=Za f c0;have a2:=Za f c1;have a3:=Za f c2;have a6:=Za f c3;go_wp2_with fail;refine(hC.out _ (by first|exact f|exact Zf f _)).mono ?_;rintro e' w2 ⟨rfl,T⟩;simp only[Zfr,Bool.false_eq_true,if_false];go_wp2_with fail;go_ret;exact⟨rfl,u.trans ((Gs f T).mono u.size)⟩
  have U:Hid (∀ j e,j<i+1->es[j]?=some e->e.fine64=true):=Zb (λj e' hj he'=>by
    rcases Nat.lt_or_ge j i with h'|h';exact au.out j e' h' he';obtain rfl:j=i:=Gk;rw[he]at he';cases he';unfold FX.fine64 FX.few;rw[hx,hk.out,Gv Gk];rfl)
  replace he:=Zb he;clear hx;go_wp2_with fail;refine(hF.out _).mono ?_;rintro e' w1 ⟨rfl,f⟩;have a1:=Za f c0;have a2:=Za f c1;have a3:=Za f c2;have a6:=Za f c3;go_wp2_with fail;refine(hC.out _ (by first|exact f|exact Zf f _)).mono ?_;rintro e' w2 ⟨rfl,T⟩;simp only[Zfr,if_true];go_wp2_with fail
  go_roundw
  case rel=>exact⟨i+1,by omega,by go_num,U,u.trans ((Gs f T).mono u.size)⟩
  case measure=>simp[intOf];omega
theorem Zda{P:Program}{ops:Array Oper}{Q:Exit->Act->World->Prop}{md:Region.Mode}{L:List Nat}{S:World->Prop}{i j:Nat}{oi oj:Oper}{fuel:Nat}{listed:Array Bool}{a:Act}{w:World}(hi:ops[i]?=some oi)(hj:ops[j]?=some oj)(hr:Region.ready md ops listed=[i,j])
    (h1:∀ K':Act->World->Prop,Shut (∀ a w,(Zcz L (listed.setIfInBounds i true)=true->S w)->Zab P md ops Q L S fuel (listed.setIfInBounds i true) a w->K' a w)->if Region.wanted oi (yielded ops a.tmps)=true then Oper.wp P oi a w K' Q else K' (a.put oi.dst undef) w)
    (h2:∀ K':Act->World->Prop,Shut (∀ a w,(Zcz L (listed.setIfInBounds j true)=true->S w)->Zab P md ops Q L S fuel (listed.setIfInBounds j true) a w->K' a w)->if Region.wanted oj (yielded ops a.tmps)=true then Oper.wp P oj a w K' Q else K' (a.put oj.dst undef) w) :
    Zab P md ops Q L S (fuel+1) listed a w:=
 ⟨(λh0=>by rw[h0]at hr;cases hr),λk hk=>by
  rw[hr]at hk;rcases List.mem_cons.1 hk with e|e;subst e;exact wpOp_step hi (λK' hK=>h1 K' (λa w hS hW=>hK a w ⟨hS,hW⟩));rw[Qf]at e;subst e;exact wpOp_step hj (λK' hK=>h2 K' (λa w hS hW=>hK a w ⟨hS,hW⟩))⟩
def FacM(tS tN:TypeId)(w:World)(base:Nat)(v1 v2:Value)(rs:List RS)(Q:List (List Rat))(ds:List Rat):Prop:=
 MatOA tS tN w base v1 rs Q/\OwnF tN w base v2 ds/\∀ r ∈ rs,∀ k,r.val.ownBlock=some k->v2.ownBlock≠some k
section
variable{tS tN:TypeId}{w w':World}{base:Nat}{v v1 v1' v2 v2':Value}{rs:List RS}{Q:List (List Rat)}{ds qs:List Rat}
theorem OwnF.blt(h:OwnF tN w base v qs):∀ k,v.ownBlock=some k->k<w.heap.size:=λk hk=>by
 obtain⟨cs,hb,-,-⟩:=h.ownBlk k hk;exact hb.lt
theorem OwnF.grownO{b:Nat}(h:OwnF tN w b v qs)(hg:w.grownBy w' v2.ownBlock)(hne:∀ k,v.ownBlock=some k->v2.ownBlock≠some k)(hk:∀ (A:Option Addr) (n c:Nat) (l:List Nat),Lim w A n c l->Lim w' A n c l):OwnF tN w' b v qs:=by
 obtain⟨es,e1,e2,e3⟩:=h;refine⟨es,?_,λe he=>(e2 e he).of_keep hk,e3⟩;rcases e1 with e1|⟨g2,sp,e4,e5,e6,e7⟩;exact .inl e1;exact .inr ⟨g2,sp,e4,e5,e6,(hg.block g2 e7.lt (λe=>hne g2 (by rw[e4];rfl) (by first|exact e|exact e.symm))).trans e7⟩
theorem RowS.grownR{rs:List RS}(h:RowS tS w base v1 rs)(hO:OwnF tN w base v2 ds)(hts:tS≠tN)(hg:w.grownBy w' v2.ownBlock):RowS tS w' base v1 rs:=by
 rcases h with h|⟨g',sp,h1,h2,h3,h4⟩;exact .inl h;refine .inr ⟨g',sp,h1,h2,h3,(hg.block g' h4.lt (λe=>?_)).trans h4⟩;obtain⟨cs,a,-,-⟩:=hO.ownBlk g' (by first|exact e|exact e.symm);exact hts (h4.type a)
theorem RowS.keptG{rs:List RS}(h:RowS tS w base v1 rs){g:Nat}(hg:g<base)(hk:Kept (λk=>k=g) w w'):RowS tS w' base v1 rs:=by
 rcases h with h|⟨g',sp,h1,h2,h3,h4⟩;exact .inl h;exact .inr ⟨g',sp,h1,h2,h3,hk.blk h4 Gk⟩
theorem FacM.nil(tS tN:TypeId)(w:World)(base:Nat):FacM tS tN w base (.slice none 0 0) (.slice none 0 0) [] [] []:=⟨MatOA.nil _ _ _ _,OwnF.nil _ _ _,λr hr=>(by cases hr)⟩
theorem FacM.kept(h:FacM tS tN w base v1 v2 rs Q ds)(hb:Below w.heap.size w w'):FacM tS tN w' base v1 v2 rs Q ds:=⟨h.1.kept hb,h.2.1.kept hb,h.2.2⟩
theorem FacM.rlt(h:FacM tS tN w base v1 v2 rs Q ds):∀ s ∈ rs,∀ k,s.val.ownBlock=some k->k<w.heap.size:=λs hs k hk=>by
 obtain⟨i,hi,e⟩:=List.getElem_of_mem hs;exact(h.1.2.2.1 i s (by rw[List.getElem?_eq_getElem hi,e])).blt k hk
theorem FacM.snocL(h:FacM tS tN w base v1 v2 rs Q ds)(hts:tS≠tN){r:RS}{q:List Rat}{b:Nat}(ho:OwnF tN w b r.val q)(hb:base<=b)(hlt:∀ s ∈ rs,∀ k,s.val.ownBlock=some k->k<b)(hl2:∀ k,v2.ownBlock=some k->k<b)(h1:RowS tS w' base v1' (rs ++ [r]))(hg:w.grownBy w' v1.ownBlock)(hk:∀ (A:Option Addr) (n c:Nat) (l:List Nat),Lim w A n c l->Lim w' A n c l) :
    FacM tS tN w' base v1' v2 (rs ++ [r]) (Q ++ [q]) ds:=by
 refine⟨h.1.snoc hts ho hb hlt h1 hg hk,h.2.1.grownT hts h.1.1 hg hk,λs hs k hsk e=>?_⟩;rcases List.mem_append.1 hs with hs|hs;exact h.2.2 s hs k hsk e;rw[Qf]at hs;subst hs;have h2:=ho.row_ge k hsk;have h3:=hl2 k e;omega
theorem FacM.snocD(h:FacM tS tN w base v1 v2 rs Q ds)(hts:tS≠tN){qs:List Rat}(hO:OwnF tN w' base v2' qs)(hg:w.grownBy w' v2.ownBlock)(hk:∀ (A:Option Addr) (n c:Nat) (l:List Nat),Lim w A n c l->Lim w' A n c l)
    (hw:v2'.ownBlock=v2.ownBlock \/ ∀ k,v2'.ownBlock=some k->w.heap.size<=k):FacM tS tN w' base v1 v2' rs Q qs:=by
 refine⟨⟨h.1.1.grownR h.2.1 hts hg,h.1.2.1,λi r hr=>(h.1.2.2.1 i r hr).grownO hg (λk hk=>h.2.2 r (Ql hr) k hk) hk,h.1.2.2.2⟩,hO,λs hs k hsk e=>?_⟩;rcases hw with hw|hw;exact h.2.2 s hs k hsk (by rw[<- hw];exact e);have h2:=hw k e;have h3:=h.rlt s hs k hsk;omega
theorem FacM.box(h:FacM tS tN w base v1 v2 rs Q ds){g:Nat}{t:TypeId}{cs:Array Value}(hb:Blk w g t cs)(hn:NoLimb cs)(hg:g<base)(hk:Kept (λk=>k=g) w w'):FacM tS tN w' base v1 v2 rs Q ds:=
 ⟨⟨h.1.1.keptG hg hk,h.1.2.1,λi r hr=>(h.1.2.2.1 i r hr).keptG hb hn (λe=>by have:=(h.1.2.2.1 i r hr).row_ge g e;omega) hk,h.1.2.2.2⟩,h.2.1.keptG hb hn (λe=>by have:=h.2.1.row_ge g e;omega) hk,h.2.2⟩
theorem MatOA.mflA(h:MatOA tS tN w base v rs Q):∃ A c,v=.slice A Q.length c/\MFL w A Q.length c Q:=by
 obtain⟨A,c,e,hM⟩:=h.1.mfl h.2.1 (λi r hr=>(h.2.2.1 i r hr).rsn.2);rw[h.2.1]at e hM;exact⟨A,c,e,hM⟩
end
theorem FL.pair2{w:World}{g:Nat}{t:TypeId}{xn:Bool}{xA:Option Addr}{xk xc:Nat}{xm:Bool}{xB:Option Addr}{xj xd:Nat}{yn:Bool}{yA:Option Addr}{yk yc:Nat}{ym:Bool}{yB:Option Addr}{yj yd:Nat}{p q:Rat}(h:Blk w g t #[.bool xn,.slice xA xk xc,.bool xm,.slice xB xj xd,.bool yn,.slice yA yk yc,.bool ym,.slice yB yj yd])(hp:Fr w xn xA xk xc xm xB xj xd p)(hq:Fr w yn yA yk yc ym yB yj yd q):FL w (some ⟨g,0,none⟩) 2 2 [p,q]:=by
 refine⟨[⟨xn,xA,xk,xc,xm,xB,xj,xd,p⟩,⟨yn,yA,yk,yc,ym,yB,yj,yd,q⟩],rfl,Qb _,by unfold maxLen;omega,λe he=>?_,rfl,λ_=>⟨g,0,rfl,λk r hr=>?_⟩⟩
 ·simp only[List.mem_cons,List.not_mem_nil,or_false]at he
  rcases he with rfl|rfl;exact hp;exact hq
 match k,hr with
 | 0,hr=>cases hr;exact⟨h.cell 0,h.cell 1,h.cell 2,h.cell 3⟩
 | 1,hr=>cases hr;exact⟨h.cell 4,h.cell 5,h.cell 6,h.cell 7⟩
 | k+2,hr=>simp at hr
theorem FL.sing1{w:World}{g:Nat}{t:TypeId}{na:Bool}{A:Option Addr}{n c:Nat}{nb:Bool}{B:Option Addr}{m d:Nat}{q:Rat}(h:Blk w g t #[.bool na,.slice A n c,.bool nb,.slice B m d])(hf:Fr w na A n c nb B m d q):FL w (some ⟨g,0,none⟩) 1 1 [q]:=by
 refine⟨[⟨na,A,n,c,nb,B,m,d,q⟩],rfl,Qb _,by unfold maxLen;omega,λe he=>?_,rfl,λ_=>⟨g,0,rfl,λk e hk=>?_⟩⟩;rw[Qf]at he;subst he;exact hf;have f:k=0:=by have:=(List.getElem?_eq_some_iff.1 hk).1;simp at this;exact this
 subst f;cases hk;exact⟨h.cell 0,h.cell 1,h.cell 2,h.cell 3⟩
theorem FL.atS{w:World}{g o n c:Nat}{qs:List Rat}(h:FL w (some ⟨g,o,none⟩) n c qs){k:Nat}(hk:k<n):∃ na A1 n1 c1 nb B m d,At4 w g (o+k*4) na A1 n1 c1 nb B m d/\Fr w na A1 n1 c1 nb B m d (qs[k]?.getD 0):=by
 obtain⟨g',o',na,A1,n1,c1,nb,B,m,d,e,h1,h2⟩:=h.at_ hk;cases e;exact⟨_,_,_,_,_,_,_,_,h1,h2⟩
theorem Zk8(A:Option Addr)(n c:Nat)(B:Option Addr)(m d:Nat):NoLimb #[.slice A n c,.slice B m d]:=λi k=>by
 match i with
 | 0=>simp
 | 1=>simp
 | i+2=>simp
def EnvF(tS tN tX:TypeId)(w:World)(base bo gl gx:Nat)(v1 v2 V1 V2 own:Value)(rs:List RS)(Q:List (List Rat))(ds q:List Rat)(ln:Bool)(lA:Option Addr)(lk lc:Nat)(lm:Bool)(lB:Option Addr)(lj ld:Nat)(d:Rat):Prop:=
 FacM tS tN w base v1 v2 rs Q ds/\OwnF tN w bo own q/\Blk w gl tN #[.bool ln,.slice lA lk lc,.bool lm,.slice lB lj ld]/\Fr w ln lA lk lc lm lB lj ld d/\Blk w gx tX #[V1,V2]
def EnvG(tS tN tX:TypeId)(w:World)(base gl gx:Nat)(v1 v2 V1 V2:Value)(rs:List RS)(Q:List (List Rat))(ds:List Rat)(ln:Bool)(lA:Option Addr)(lk lc:Nat)(lm:Bool)(lB:Option Addr)(lj ld:Nat)(d:Rat):Prop:=
 FacM tS tN w base v1 v2 rs Q ds/\Blk w gl tN #[.bool ln,.slice lA lk lc,.bool lm,.slice lB lj ld]/\Fr w ln lA lk lc lm lB lj ld d/\Blk w gx tX #[V1,V2]
section
variable{tS tN tX:TypeId}{w w':World}{base bo gl gx:Nat}{v1 v1' v2 v2' V1 V2 own:Value}{rs:List RS}{Q:List (List Rat)}{ds q:List Rat}{ln:Bool}{lA:Option Addr}{lk lc:Nat}{lm:Bool}{lB:Option Addr}{lj ld:Nat}{d:Rat}
theorem EnvF.below(h:EnvF tS tN tX w base bo gl gx v1 v2 V1 V2 own rs Q ds q ln lA lk lc lm lB lj ld d)(hb:Below w.heap.size w w'):EnvF tS tN tX w' base bo gl gx v1 v2 V1 V2 own rs Q ds q ln lA lk lc lm lB lj ld d:=
 ⟨h.1.kept hb,h.2.1.kept hb,Zc hb h.2.2.1,h.2.2.2.1.below hb,Zc hb h.2.2.2.2⟩
theorem EnvG.below(h:EnvG tS tN tX w base gl gx v1 v2 V1 V2 rs Q ds ln lA lk lc lm lB lj ld d)(hb:Below w.heap.size w w'):EnvG tS tN tX w' base gl gx v1 v2 V1 V2 rs Q ds ln lA lk lc lm lB lj ld d:=
 ⟨h.1.kept hb,Zc hb h.2.1,h.2.2.1.below hb,Zc hb h.2.2.2⟩
theorem EnvF.cells(h:EnvF tS tN tX w base bo gl gx v1 v2 V1 V2 own rs Q ds q ln lA lk lc lm lB lj ld d):w.cell? ⟨gx,0,none⟩=some V1/\w.cell? ⟨gx,1,none⟩=some V2:=by
 have:=h.2.2.2.2;exact Iv
theorem EnvG.cells(h:EnvG tS tN tX w base gl gx v1 v2 V1 V2 rs Q ds ln lA lk lc lm lB lj ld d):w.cell? ⟨gx,0,none⟩=some V1/\w.cell? ⟨gx,1,none⟩=some V2:=by
 have:=h.2.2.2;exact Iv
theorem EnvF.left(h:EnvF tS tN tX w base bo gl gx v1 v2 V1 V2 own rs Q ds q ln lA lk lc lm lB lj ld d):w.cell? ⟨gl,0,none⟩=some (.bool ln)/\w.cell? ⟨gl,1,none⟩=some (.slice lA lk lc)/\w.cell? ⟨gl,2,none⟩=some (.bool lm)/\w.cell? ⟨gl,3,none⟩=some (.slice lB lj ld):=by
 obtain⟨a,b,c,d,-⟩:=h.2.2.1.four;exact⟨a,b,c,d⟩
theorem EnvG.left(h:EnvG tS tN tX w base gl gx v1 v2 V1 V2 rs Q ds ln lA lk lc lm lB lj ld d):w.cell? ⟨gl,0,none⟩=some (.bool ln)/\w.cell? ⟨gl,1,none⟩=some (.slice lA lk lc)/\w.cell? ⟨gl,2,none⟩=some (.bool lm)/\w.cell? ⟨gl,3,none⟩=some (.slice lB lj ld):=by
 obtain⟨a,b,c,d,-⟩:=h.2.1.four;exact⟨a,b,c,d⟩
theorem EnvF.far{t:TypeId}{g:Nat}{cs:Array Value}(h:EnvF tS tN tX w base bo gl gx v1 v2 V1 V2 own rs Q ds q ln lA lk lc lm lB lj ld d)(hts:tS≠t)(hg:w.grownBy w' v1.ownBlock)(hb:Blk w g t cs):Blk w' g t cs:=
 (hg.block g hb.lt (λe=>h.1.1.1.ownType hb hts (by first|exact e|exact e.symm))).trans hb
theorem EnvF.app(h:EnvF tS tN tX w base bo gl gx v1 v2 V1 V2 own rs Q ds q ln lA lk lc lm lB lj ld d)(hts:tS≠tN){r:RS}(hr:r.val=own)(hbb:base<=bo)(hlt:∀ s ∈ rs,∀ k,s.val.ownBlock=some k->k<bo)(hl2:∀ k,v2.ownBlock=some k->k<bo)(hgx:gx<base)(h1:RowS tS w' base v1' (rs ++ [r]))(hg:w.grownBy w' v1.ownBlock)(hk:∀ (A:Option Addr) (n c:Nat) (l:List Nat),Lim w A n c l->Lim w' A n c l) :
    EnvG tS tN tX w' base gl gx v1' v2 V1 V2 (rs ++ [r]) (Q ++ [q]) ds ln lA lk lc lm lB lj ld d:=by
 refine⟨h.1.snocL hts (hr▸h.2.1) hbb hlt hl2 h1 hg hk,h.far hts hg h.2.2.1,⟨⟨h.2.2.2.1.1.1,h.2.2.2.1.1.2.1,hk _ _ _ _ h.2.2.2.1.1.2.2⟩,⟨h.2.2.2.1.2.1,h.2.2.2.1.2.2.1,hk _ _ _ _ h.2.2.2.1.2.2.2⟩⟩,?_⟩;exact(hg.block gx h.2.2.2.2.lt (λe=>by have:=h.1.1.1.row_ge gx (by first|exact e|exact e.symm);omega)).trans h.2.2.2.2
theorem EnvG.app(h:EnvG tS tN tX w base gl gx v1 v2 V1 V2 rs Q ds ln lA lk lc lm lB lj ld d)(hts:tS≠tN)(hgx:gx<base){qs:List Rat}(hO:OwnF tN w' base v2' qs)(hg:w.grownBy w' v2.ownBlock)(hk:∀ (A:Option Addr) (n c:Nat) (l:List Nat),Lim w A n c l->Lim w' A n c l)
    (hw:v2'.ownBlock=v2.ownBlock \/ ∀ k,v2'.ownBlock=some k->w.heap.size<=k):FacM tS tN w' base v1 v2' rs Q qs/\Blk w' gx tX #[V1,V2]:=
 ⟨h.1.snocD hts hO hg hk hw,(hg.block gx h.2.2.2.lt (λe=>by have:=h.1.2.1.row_ge gx (by first|exact e|exact e.symm);omega)).trans h.2.2.2⟩
theorem Kept.grownC{G:Nat->Prop}{W0:World}{row:Option Nat}(h:Kept G W0 w)(hg:w.grownBy w' row)(hr:∀ k,row=some k->W0.heap.size<=k):Kept G W0 w':=
 ⟨hg.os.trans h.os,hg.tape.trans h.tape,hg.output.trans h.output,Qa h.size hg.size,λk hk hG=>(hg.block k (Nat.lt_of_lt_of_le hk h.size) (λe=>by have:=hr k (by first|exact e|exact e.symm);omega)).trans (h.block k hk hG)⟩
end
