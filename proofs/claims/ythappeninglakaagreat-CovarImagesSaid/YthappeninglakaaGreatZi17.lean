/- Reference of covar: solve. Reference of covar: zeros, -/
import Derived.Deep.LoopGhost
import Derived.Test.YthappeninglakaaGreatZi16
set_option maxRecDepth 100000
set_option maxHeartbeats 16000000
set_option linter.unusedSimpArgs false
set_option linter.unusedVariables false
namespace Go.Proofs.YthappeninglakaaGreat
open Go.RowKit
open Act renaming put→Qa
open Nat renaming le_refl→Qb,lt_or_ge→Qh,zero_add→Qq,zero_le→Qu
open Below renaming refl→Qc
open List renaming getElem?_eq_none→Qd,replicate→Qe,getElem?_eq_getElem→Qf,getElem?_set→Qg,length_map→Qi,getElem?_map→Qj,range→Qk,mem_of_getElem?→Ql,getElem?_range→Qm,map_cons→Qp,map_nil→Qs,getElem_of_mem→Qt,mem_singleton→Qv,length_set→Qw,nil_append→Qx,length_append→Qy,ext_getElem?→Qz
open Kept renaming refl→Qn
open Blk renaming new→Qo
open Option renaming map_some→Qr,getD_some→QA
attribute [local go_sem] Zg
theorem Zzx{w:World}{t:TypeId}{g:Nat}{A:Option Addr}{n c:Nat}(h:Blk w g t #[.slice A n c]):Reads w (g+1) 1 (some ⟨g,0,none⟩) 1 (Zaq [⟨A,n,c⟩]):=
 ⟨rfl,λ_=>⟨_,rfl,Nat.lt_succ_self _,λj u hu=>by
  rw[Zg,Qq,h.cell];simpa [Zaq]using hu⟩⟩
def Zco(Q:List (List Rat))(xs:List Rat)(n:Nat):List (List Rat):=(Qk n).map λi=>Q[i]?.getD [] ++ [xs[i]?.getD 0]
section
variable{Q:List (List Rat)}{xs:List Rat}{n:Nat}
theorem Zlm:(Zco Q xs n).length=n:=by simp[Zco]
theorem Znm{i:Nat}(h:i<n):(Zco Q xs n)[i]?.getD []=Q[i]?.getD [] ++ [xs[i]?.getD 0]:=by simp[Zco,h]
theorem Zzs{i:Nat}(h:i<n):(Zco Q xs n)[i]?=some (Q[i]?.getD [] ++ [xs[i]?.getD 0]):=by simp[Zco,h]
theorem Zp4(hm:∀ i,i<n->(Q[i]?.getD []).length=n){i:Nat}(h:i<n):((Zco Q xs n)[i]?.getD []).length=n+1:=by rw[Znm h,Qy,hm i h];rfl
theorem Z0d(hm:∀ i,i<n->(Q[i]?.getD []).length=n){i k:Nat}(h:i<n)(hk:k<n):Zh (Zco Q xs n) i k=Zh Q i k:=by
 unfold Zh;rw[Znm h,List.getElem?_append_left (by rw[hm i h];exact hk)]
theorem Zvr(hm:∀ i,i<n->(Q[i]?.getD []).length=n){i:Nat}(h:i<n):Zh (Zco Q xs n) i n=xs[i]?.getD 0:=by
 unfold Zh;rw[Znm h,List.getElem?_append_right (by rw[hm i h];exact Qb _),hm i h,Nat.sub_self];rfl
theorem Zwl(hm:∀ i,i<n->(Q[i]?.getD []).length=n){i k:Nat}(h:i<n)(hk:n<k):Zh (Zco Q xs n) i k=0:=by
 unfold Zh;rw[Qd (by rw[Zp4 hm h];omega)];rfl
end
section
variable{R:List (List Rat)}{n m:Nat}
theorem Ztp(hrow:∀ i,i<R.length->(R[i]?.getD []).length=m){r c i j:Nat}(hi:i<R.length)(hr:r<R.length)(hj:c<=j) :
    Zh (Zbr R r c) i j=if i<=r then Zh R i j else Zh R i j-Zh R i c/Zh R r c*Zh R r j:=by
 unfold Zbr;show ((List.map _ (Qk R.length))[i]?.getD [])[j]?.getD 0=_;rw[Qj,Qm hi];simp only[Qr,QA];by_cases h1:i<=r;rw[Gx h1,Gx h1];rfl;rw[Gw h1,Gw h1];unfold Zot;rw[Qj];by_cases hjl:j<(R[i]?.getD []).length
 ·rw[Qm hjl]
  simp only[Qr,QA];rw[Gw Gk];rfl
 rw[Qd (l:=Qk _) (by simpa using hjl)];simp only[Option.map_none,Option.getD_none];have e1:Zh R i j=0:=by unfold Zh;rw[Qd Gk];rfl
 have e2:Zh R r j=0:=by unfold Zh;rw[Qd (by rw[hrow i hi]at hjl;rw[hrow r hr];omega)];rfl
 rw[e1,e2];grind
theorem Zsi(hrow:∀ i,i<R.length->(R[i]?.getD []).length=m){r c i:Nat}(hi:i<R.length):((Zbr R r c)[i]?.getD []).length=m:=by
 rw[Zjm hi]
 split
 exact hrow i hi;unfold Zot;rw[Qi,List.length_range];exact hrow i hi
theorem Zk9(hrow:∀ i,i<R.length->(R[i]?.getD []).length=m):∀ t i,i<R.length->((Zfv R t)[i]?.getD []).length=m
 | 0,i,hi=>hrow i hi
 | t+1,i,hi=>Zsi (R:=Zfv R t) (λi hi=>Zk9 hrow t i (by rw[Zh4]at hi;exact hi)) (by rw[Zh4];exact hi)
theorem Ze5(hl:R.length=n)(hrow:∀ i,i<R.length->(R[i]?.getD []).length=m):∀ t,t<=n->∀ i k,i<n->min t i<=k->Zh (Zfv R t) i k=Zr (Zh R) t i k
 | 0,_,_,_,_,_=>rfl
 | t+1,ht,i,k,hi,hk=>by
  show Zh (Zbr (Zfv R t) t t) i k=if t<i then _ else _
  have hL:(Zfv R t).length=n:=by rw[Zh4,hl]
  have hR:∀ i,i<(Zfv R t).length->((Zfv R t)[i]?.getD []).length=m:=λi hi=>Zk9 hrow t i (by rw[Zh4]at hi;exact hi);by_cases hti:t<i
  ·have e:t+1<=k:=Gk
   rw[Gx hti,Ztp hR (by rw[hL];exact hi) (by rw[hL];omega) Gk,Gw Gk,
    Ze5 hl hrow t Gk i k hi Gk,Ze5 hl hrow t Gk i t hi Gk,Ze5 hl hrow t Gk t t Gk Gk,Ze5 hl hrow t Gk t k Gk Gk]
  rw[Gw hti];have f:i<=k:=Gk
  have:Zh (Zbr (Zfv R t) t t) i k=Zh (Zfv R t) i k:=by
   unfold Zh;rw[Zjm (by rw[hL];exact hi),Gx Gk]
  rw[this];exact Ze5 hl hrow t Gk i k hi Gk
end
def SolvC(E X:Nat->Nat->Rat)(n:Nat):Prop:=
 (∀ i,i<n->X i n=upS E X i n n/E i i)/\(∀ i,SmN 300 300 (X i n))/\∀ i t,SmN 400 400 (upS E X i n t)
def Zm9(B0:Nat)(q:Rat)(ca al:Nat)(i:Nat)(v:Value)(w:World):Prop:=
 if i=ca then ∃ na A n c nb B m d,v=.agg #[.bool na,.slice A n c,.bool nb,.slice B m d]/\Fr w na A n c nb B m d q
 else if i=al then ∃ g,v=.pointer (some ⟨g,0,none⟩)/\B0<=g/\Blk w g 41 #[.bool false,.slice none 0 0,.bool false,.slice none 0 0]
 else True
theorem Zun{B0:Nat}{q:Rat}{ca al i:Nat}{v:Value}{w w':World}(hb:Below w.heap.size w w')(h:Zm9 B0 q ca al i v w):Zm9 B0 q ca al i v w':=by
 unfold Zm9 at h ⊢
 split at h
 ·rename_i h1;rw[Gx h1]
  exact Fc
 rename_i h1;rw[Gw h1]
 split at h
 ·rename_i h4;rw[Gx h4]
  obtain⟨g,e,h5,h6⟩:=h;exact⟨g,e,h5,Zc hb h6⟩
 rename_i h4;rw[Gw h4];trivial
def FTail(t:TypeId)(w:World)(g n i:Nat)(x:Nat->Rat):Prop:=∃ es:List FE,Blk w g t (Zx es)/\es.length=n/\∀ (j:Nat) (e:FE),i<=j->es[j]?=some e->e.in_ w/\e.q=x j
section
variable{t:TypeId}{w w':World}{g n i:Nat}{x:Nat->Rat}
theorem FTail.new(t:TypeId)(w:World)(n:Nat)(x:Nat->Rat):FTail t (w.alloc (.cells (Zx (Qe n Zas)) t)) w.heap.size n n x:=
 ⟨_,Qo _ _ _,by simp,λj e h1 h2=>by rw[Qd (by simp;exact h1)]at h2;cases h2⟩
theorem FTail.below(h:FTail t w g n i x)(hb:Below w.heap.size w w'):FTail t w' g n i x:=by
 obtain⟨es,h1,h2,h3⟩:=h;exact⟨es,Zc hb h1,h2,λj e hj he=>⟨(h3 j e hj he).1.below hb,(h3 j e hj he).2⟩⟩
theorem FTail.at_(h:FTail t w g n i x){j:Nat}(hij:i<=j)(hj:j<n):∃ na A k c nb B m d,w.cell? ⟨g,j*4,none⟩=some (.bool na)/\w.cell? ⟨g,j*4+1,none⟩=some (.slice A k c)/\w.cell? ⟨g,j*4+2,none⟩=some (.bool nb)/\w.cell? ⟨g,j*4+3,none⟩=some (.slice B m d)/\Fr w na A k c nb B m d (x j):=by
 obtain⟨es,h1,h2,h3⟩:=h;have he:=Qf (l:=es) (i:=j) Gk;have hc:=Zdz he;obtain⟨h4,h5⟩:=h3 j _ hij he;unfold FE.in_ at h4;rw[h5]at h4;exact⟨_,_,_,_,_,_,_,_,by rw[h1.cell];exact hc.1,by rw[h1.cell];exact hc.2.1,by rw[h1.cell];exact hc.2.2.1,by rw[h1.cell];exact hc.2.2.2,h4⟩
theorem FTail.raw(h:FTail t w g n i x):FRaw t w g n:=by obtain⟨es,h1,h2,-⟩:=h;exact⟨es,h1,by omega⟩
theorem FTail.set_(h:FTail t w g n (i+1) x)(hi:i<n){na:Bool}{A:Option Addr}{k c:Nat}{nb:Bool}{B:Option Addr}{m d:Nat}(hf:Fr w na A k c nb B m d (x i)):FTail t (Zgh w g i na A k c nb B m d) g n i x:=by
 obtain⟨es,h1,h2,h3⟩:=h;have hb:=(((h1.set_ (i*4) (.bool na)).set_ (i*4+1) (.slice A k c)).set_ (i*4+2) (.bool nb)).set_ (i*4+3) (.slice B m d);have hs:=Zhw (es:=es) (i:=i) ⟨na,A,k,c,nb,B,m,d,x i⟩ Gk;dsimp only at hs;rw[hs]at hb;have f:=Zcb es;refine⟨_,hb,by rw[Qw];exact h2,λj e hj he=>?_⟩;rw[Qg]at he;by_cases hij:i=j
 ·subst hij
  rw[Gx rfl,Gx Gk]at he;cases he;exact⟨Zit hf h1 f,rfl⟩
 rw[Gw hij]at he;have:=h3 j e Gk he;exact⟨Zit this.1 h1 f,this.2⟩
theorem FTail.fl(h:FTail t w g n 0 x)(hm:n<=maxLen):FL w (some ⟨g,0,none⟩) n n ((Qk n).map x):=by
 obtain⟨es,h1,h2,h3⟩:=h;refine⟨es,h2,Qb _,hm,λe he=>?_,?_,λ_=>⟨g,0,rfl,λk e he=>?_⟩⟩
 ·obtain⟨j,hj,e2⟩:=Qt he
  exact(h3 j e (Qu _) (by rw[Qf hj,e2])).1
 ·apply Qz
  intro j;rw[Qj,Qj];by_cases hj:j<n
  ·have he:=Qf (l:=es) (i:=j) Gk
   rw[he,Qm hj,Qr,Qr,(h3 j _ (Qu _) he).2]
  rw[Qd Gk,Qd (by simpa using hj)];rfl
 have hc:=Zdz he;exact⟨by rw[Qq,h1.cell];exact hc.1,by rw[Qq,h1.cell];exact hc.2.1,by rw[Qq,h1.cell];exact hc.2.2.1,by rw[Qq,h1.cell];exact hc.2.2.2⟩
end
theorem RowS.isSlC{t:TypeId}{w:World}{base:Nat}{v:Value}{rs:List RS}(h:RowS t w base v rs):∃ A n c,v=.slice A n c:=by
 exact FF
def Zyw(A X:Nat->Nat->Rat)(n:Nat)(w:World)(e:Ending)(w':World):Prop:=
 Below w.heap.size w w'/\((posP A n/\∃ B c,e=.returned (.tuple #[.slice B n c,.bool true])/\FL w' B n c ((Qk n).map λi=>X i n)) \/ (¬ posP A n/\e=.returned (.tuple #[.slice none 0 0,.bool false])))
theorem IA{G:Prop}(h:G:=by
 clear fp fq fh bV;go_wp2_with fail;go_returns;exact⟨aK.out,.inr ⟨iH.out,rfl⟩⟩):G:=h
theorem Zrk(A0:Option Addr)(n c:Nat)(Q:List (List Rat))(Ax:Option Addr)(cx:Nat)(xs:List Rat)(w:World)(h:MFL w A0 n c Q)(hv:FL w Ax n cx xs)(hn0:0<n)(hn9:n<=100)(hm:∀ i,i<n->(Q[i]?.getD []).length=n)
    (hs:∀ t i k,t<=n->posP (Zh (Zco Q xs n)) t->i<n->SmN 380 380 (Zr (Zh (Zco Q xs n)) t i k)) (hl:∀ i k,k<=i->i<n->posP (Zh (Zco Q xs n)) (k+1)->SmN 300 300 (lQ (Zh (Zco Q xs n)) i k))
    (X:Nat->Nat->Rat) (hX:posP (Zh (Zco Q xs n)) n->SolvC (λi j=>Zr (Zh (Zco Q xs n)) i i j) X n) :
    Calls Tryz.prog 57 #[.slice A0 n c,.slice Ax n cx] w (Zyw (Zh (Zco Q xs n)) X n w):=by
 obtain⟨iF,hi,l4,j7,k3⟩:=info_parts Zd6;obtain⟨iS,ki,H0,K0,L5⟩:=info_parts Zhb;have hmx:=Gt;have C9:(35:TypeId)≠41:=Gj;have N2:=h.2.1;have K7:=h.2.2.1;unfold maxLen at K7;have y5:=hv.cap;unfold maxLen at y5;obtain⟨R,hR⟩:=Gz (Zco Q xs n);have m0:Hid (R.length=n):=Za (by rw[<- hR];exact Zlm);have j6:Hid (∀ i,i<R.length->(R[i]?.getD []).length=n+1):=Za (λi hi=>by rw[<- hR]at hi ⊢;exact Zp4 hm (by rw[Zlm]at hi;exact hi));have z4:Hid (∀ i,i<n->R[i]?=some (Q[i]?.getD [] ++ [xs[i]?.getD 0])):=Za (λi hi=>by rw[<- hR];exact Zzs hi);rw[hR]at hs hl hX ⊢;obtain⟨AR,l9⟩:=Gz (Zh R);rw[l9]at hs hl hX ⊢;replace l9:=Za l9;have hH:=Za h;have K5:=Za hv;replace hs:=Za hs;replace hl:=Za hl;replace hX:=Za hX;replace hm:=Za hm;clear h hv hR;go_in;go_wp2_with fail
 go_loopg [6,7] n (λk ov iv wr=>∃ (i:Nat) (L:List RF),i+k=n/\iv=.int .i64 i/\MatO 35 41 wr w.heap.size ov L/\Hid (L.map RF.q=R.take i)/\Below w.heap.size w wr)
 case atStart=>exact⟨0,[],by omega,rfl,MatO.nil _ _ _ _,Za Gh,Qc _ _⟩
 case round =>
  obtain⟨i,L,L4,rfl,hM,hQ,hB⟩:=hrel
  have f6:L.length=i:=by
   have h1:(L.map RF.q).length=(R.take i).length:=by rw[hQ.out]
   rw[Qi,List.length_take,m0.out]at h1;omega
  cases gk with
  | succ j =>
   obtain rfl:j=n-(i+1):=Gk;have u:i<n:=Gk;have t1:decide ((i:Int)<(n:Int))=true:=Gv Gk;have bi:(i:Int)<(n:Int):=Gk;obtain⟨g,o,A1,n1,c1,rfl,k0,hF⟩:=hH.out.at_ u;have H8:n=n1:=by rw[<- hF.len];exact(hm.out i u).symm
   subst H8;obtain⟨gy,oy,xn,xA,xk,xc,xm,xB,xj,xd,rfl,⟨x0,x1,x2,x3⟩,y9⟩:=K5.out.at_ u;have J7:Hid (∀ s ∈ L,s.g<wr.heap.size):=Za (λs hs=>(hM.2.1 s hs).1.1.lt);have e6:Hid ((Q[i]?.getD []).length=n):=Za (hm.out i u);obtain⟨O6,ovn,ovc,rfl⟩:=hM.1.isSlC;replace hM:=Za hM;replace hF:=Za hF;replace y9:=Za y9;have y0:=Zb hB k0;have y1:=Zb hB x0;have y2:=Zb hB x1;have y3:=Zb hB x2;have y4:=Zb hB x3;go_wp2_with fail;obtain⟨X0,T⟩:=Gz wr.drew;have f5:Below wr.heap.size wr X0:=by rw[<- T];exact Zf (Qc _ _) 1
   have a2:Hid (∀ wx,Below w.heap.size w wx->wx.cell? ⟨g,o+i,none⟩=some (.slice A1 n c1)/\wx.cell? ⟨gy,oy+i*4,none⟩=some (.bool xn)/\wx.cell? ⟨gy,oy+i*4+1,none⟩=some (.slice xA xk xc)/\wx.cell? ⟨gy,oy+i*4+2,none⟩=some (.bool xm)/\wx.cell? ⟨gy,oy+i*4+3,none⟩=some (.slice xB xj xd)):=Za (λwx f=>⟨Zb f k0,Zb f x0,Zb f x1,Zb f x2,Zb f x3⟩);have F1:Below w.heap.size w X0:=Gs hB f5;refine wp_heldS [] hmx a2 (by rw[T];exact F1) (λhxs=>?_);rw[T];clear y0 y1 y2 y3 y4;refine Zke 9 [0,2,3,4,5,7,8,9,10] rfl Gi (a2.out _ F1) ?_
   iterate 9 (refine tkA ?_;try simp only[Qa,Zhf,Zgs,Zg9,Gr,Gq,Gp])
   refine tk0 ?_;refine Zdc (i:=1) (j:=11) rfl rfl Gi (λK hK=>?_) (λK hK=>?_)
   focus
    obtain⟨Y1,l8⟩:=Gz (X0.alloc (.cells #[] 41));obtain⟨e0,h5⟩:=Gz X0.heap.size;have E7:Below X0.heap.size X0 Y1:=by rw[<- l8];exact(Qc _ _).alloc (Qb _) _
    have D6:Blk Y1 e0 41 #[]:=by rw[<- l8,<- h5];exact Qo _ _ _
    have x4:wr.heap.size<=e0:=by rw[<- h5];exact f5.size
    have a3:=Gs f5 E7;have C2:Below w.heap.size w Y1:=Gs hB a3;have g8:OwnF 41 Y1 wr.heap.size (.slice (some ⟨e0,0,none⟩) 0 0) []:=⟨[],.inr ⟨e0,0,rfl,x4,Qu _,D6⟩,λe he=>(by cases he),rfl⟩;go_simp;(try rw[l8]);(try rw[h5]);refine hK.out _ _ (λ_=>a2.out _ C2) ?_;clear hK K l8 h5
    try simp only[Qa,Zhf,Zgs,Zg9]
    refine Zdc (i:=6) (j:=11) rfl rfl Gi (λK hK=>?_) (λK hK=>?_)
    focus
     obtain⟨E9,B3,r6,υ5,w7⟩:=(hF.out.below (Gs hB a3)).reads;rw[Gx Gd];refine Zbe _ (.tmp 24) (.tmp 28) 35 rfl wr.heap.size 41 iF Tryz.underlying35 hi l4 j7 k3 (.slice (some ⟨e0,0,none⟩) 0 0) [] rfl g8 _ _ _ _ E9 rfl B3 r6 υ5 Gg a3.size ?_;intro L7 Y4 q7 E5 M8 M1;rw[Qx,w7]at q7;have g9:=a3.grown E5 a3.size (λk hk=>g8.row_ge k hk);have z9:Below w.heap.size w Y4:=Gs hB g9;refine hK.out _ _ (λ_=>a2.out _ z9) ?_;clear hK K
     try simp only[Qa,Zhf,Zgs,Zg9]
     refine wpAnyL_o 11 λK hK=>?_;obtain⟨Y5,n0⟩:=Gz (Y4.alloc (.cells #[.bool xn,.slice xA xk xc,.bool xm,.slice xB xj xd] 41));obtain⟨r9,g7⟩:=Gz Y4.heap.size;have r1:Below Y4.heap.size Y4 Y5:=by rw[<- n0];exact(Qc _ _).alloc (Qb _) _
     have C0:Blk Y5 r9 41 #[.bool xn,.slice xA xk xc,.bool xm,.slice xB xj xd]:=by rw[<- n0,<- g7];exact Qo _ _ _
     have L0:wr.heap.size<=r9:=by rw[<- g7];exact g9.size
     have r3:=Gs g9 r1;have z7:Below w.heap.size w Y5:=Gs hB r3;have m3:=q7.kept r1;go_simp;(try rw[n0]);(try rw[g7]);refine hK.out _ _ (λ_=>a2.out _ z7) ?_;clear hK K n0 g7
     try simp only[Qa,Zhf,Zgs,Zg9]
     have rL:=r3;have oL:=m3;have bL:=C0;obtain⟨vL,rfl⟩:∃ x:Value,x=L7:=⟨_,rfl⟩;obtain⟨gL,rfl⟩:∃ x:Nat,x=r9:=⟨_,rfl⟩;obtain⟨WL,rfl⟩:=Gy Y5
    rotate_left 1
    focus
     obtain⟨Y8,m6⟩:=Gz (Y1.alloc (.cells #[.bool xn,.slice xA xk xc,.bool xm,.slice xB xj xd] 41));obtain⟨i3,d8⟩:=Gz Y1.heap.size;have q8:Below Y1.heap.size Y1 Y8:=by rw[<- m6];exact(Qc _ _).alloc (Qb _) _
     have k6:Blk Y8 i3 41 #[.bool xn,.slice xA xk xc,.bool xm,.slice xB xj xd]:=by rw[<- m6,<- d8];exact Qo _ _ _
     have J3:wr.heap.size<=i3:=by rw[<- d8];exact a3.size
     have d7:=Gs a3 q8;have E1:Below w.heap.size w Y8:=Gs hB d7;have x9:Hid (e0<i3):=Za (by rw[<- d8];have h9:=g8.blt e0 (by simp[Value.ownBlock]);exact h9);have h6:=g8.kept q8;go_simp;(try rw[m6]);(try rw[d8]);refine hK.out _ _ (λ_=>a2.out _ E1) ?_;clear hK K m6 d8
     try simp only[Qa,Zhf,Zgs,Zg9]
     refine wpAnyL_o 6 λK hK=>?_;obtain⟨w6,y8,o7,n6,o9⟩:=(hF.out.below (Gs hB d7)).reads;rw[Gx Gd];refine Zbe _ (.tmp 24) (.tmp 28) 35 rfl wr.heap.size 41 iF Tryz.underlying35 hi l4 j7 k3 (.slice (some ⟨e0,0,none⟩) 0 0) [] rfl h6 _ _ _ _ w6 rfl y8 o7 n6 Gg d7.size ?_;intro C4 x6 i5 k8 J6 F7;rw[Qx,o9]at i5;have l2:=d7.grown k8 d7.size (λk hk=>h6.row_ge k hk);have t7:Below w.heap.size w x6:=Gs hB l2;have i0:Blk x6 i3 41 #[.bool xn,.slice xA xk xc,.bool xm,.slice xB xj xd]:=(k8.block i3 k6.lt (λe=>by simp[Value.ownBlock]at e;have:=x9.out;omega)).trans k6;refine hK.out _ _ (λ_=>a2.out _ t7) ?_;clear hK K
     try simp only[Qa,Zhf,Zgs,Zg9]
     have rL:=l2;have oL:=i5;have bL:=i0;obtain⟨vL,rfl⟩:∃ x:Value,x=C4:=⟨_,rfl⟩;obtain⟨gL,rfl⟩:∃ x:Nat,x=i3:=⟨_,rfl⟩;obtain⟨WL,rfl⟩:=Gy x6
   rotate_left 2
   focus
    obtain⟨f9,h3⟩:=Gz (X0.alloc (.cells #[.bool xn,.slice xA xk xc,.bool xm,.slice xB xj xd] 41));obtain⟨b6,b8⟩:=Gz X0.heap.size;have υ8:Below X0.heap.size X0 f9:=by rw[<- h3];exact(Qc _ _).alloc (Qb _) _
    have j3:Blk f9 b6 41 #[.bool xn,.slice xA xk xc,.bool xm,.slice xB xj xd]:=by rw[<- h3,<- b8];exact Qo _ _ _
    have F6:wr.heap.size<=b6:=by rw[<- b8];exact f5.size
    have b7:=Gs f5 υ8;have t0:Below w.heap.size w f9:=Gs hB b7;go_simp;(try rw[h3]);(try rw[b8]);refine hK.out _ _ (λ_=>a2.out _ t0) ?_;clear hK K h3 b8
    try simp only[Qa,Zhf,Zgs,Zg9]
    refine wpAnyL_o 1 λK hK=>?_;obtain⟨o8,h2⟩:=Gz (f9.alloc (.cells #[] 41));obtain⟨b5,a9⟩:=Gz f9.heap.size;have j9:Below f9.heap.size f9 o8:=by rw[<- h2];exact(Qc _ _).alloc (Qb _) _
    have w0:Blk o8 b5 41 #[]:=by rw[<- h2,<- a9];exact Qo _ _ _
    have p5:wr.heap.size<=b5:=by rw[<- a9];exact b7.size
    have b0:=Gs b7 j9;have w8:Below w.heap.size w o8:=Gs hB b0;have x9:Hid (b6<b5):=Za (by rw[<- a9];exact j3.lt);have b4:=Zc j9 j3;have l3:OwnF 41 o8 wr.heap.size (.slice (some ⟨b5,0,none⟩) 0 0) []:=⟨[],.inr ⟨b5,0,rfl,p5,Qu _,w0⟩,λe he=>(by cases he),rfl⟩;go_simp;(try rw[h2]);(try rw[a9]);refine hK.out _ _ (λ_=>a2.out _ w8) ?_;clear hK K h2 a9
    try simp only[Qa,Zhf,Zgs,Zg9]
    refine wpAnyL_o 6 λK hK=>?_;obtain⟨s9,t8,p8,p9,p4⟩:=(hF.out.below (Gs hB b0)).reads;rw[Gx Gd];refine Zbe _ (.tmp 24) (.tmp 28) 35 rfl wr.heap.size 41 iF Tryz.underlying35 hi l4 j7 k3 (.slice (some ⟨b5,0,none⟩) 0 0) [] rfl l3 _ _ _ _ s9 rfl t8 p8 p9 Gg b0.size ?_;intro B8 y6 k9 l6 H9 F5;rw[Qx,p4]at k9;have k7:=b0.grown l6 b0.size (λk hk=>l3.row_ge k hk);have r7:Below w.heap.size w y6:=Gs hB k7;have b9:Blk y6 b6 41 #[.bool xn,.slice xA xk xc,.bool xm,.slice xB xj xd]:=(l6.block b6 b4.lt (λe=>by simp[Value.ownBlock]at e;have:=x9.out;omega)).trans b4;refine hK.out _ _ (λ_=>a2.out _ r7) ?_;clear hK K
    try simp only[Qa,Zhf,Zgs,Zg9]
    have rL:=k7;have oL:=k9;have bL:=b9;obtain⟨vL,rfl⟩:∃ x:Value,x=B8:=⟨_,rfl⟩;obtain⟨gL,rfl⟩:∃ x:Nat,x=b6:=⟨_,rfl⟩;obtain⟨WL,rfl⟩:=Gy y6
   all_goals
    refine wpAnyL_o 12 λK hK=>?_;rw[Gx Gd];obtain⟨zA,zc,A9,H3⟩:=oL.fl;rw[e6.out]at A9 H3;subst A9;refine Zbe _ (.tmp 29) (.tmp 34) 35 rfl wr.heap.size 41 iF Tryz.underlying35 hi l4 j7 k3 (.slice zA n zc) _ rfl oL _ (some ⟨gL,0,none⟩) 1 1 [⟨xn,xA,xk,xc,xm,xB,xj,xd,xs[i]?.getD 0⟩] rfl (Zb9 _ bL) rfl (by intro e he;rw[Qv]at he;subst he;exact y9.out.below (Gs hB rL)) (by rw[e6.out];omega) rL.size ?_;intro vQ i4 l1 s5 I0 F4;simp only[Qp,Qs]at l1;have g6:=rL.grown s5 rL.size (λk hk=>oL.row_ge k hk);have υ4:Below w.heap.size w i4:=Gs hB g6;rcases l1.fown with ⟨-,t9⟩|⟨g2,c2,rfl,C3,r0,C5,H6⟩;simp at t9;have y7:(Q[i]?.getD [] ++ [xs[i]?.getD 0]).length=n+1:=by rw[Qy,e6.out];rfl
    rw[y7]at r0 ⊢;refine hK.out _ _ (λ_=>a2.out _ υ4) ?_;clear hK K
    try simp only[Qa,Zhf,Zgs,Zg9]
    obtain⟨Z1,n8⟩:∃ Z,i4.alloc (.cells #[.slice (some ⟨g2,0,none⟩) (n+1) c2] 35)=Z:=⟨_,rfl⟩;obtain⟨gz,υ7⟩:=Gz i4.heap.size;have z6:Below i4.heap.size i4 Z1:=by rw[<- n8];exact(Qc _ _).alloc (Qb _) _
    have G1:Blk Z1 gz 35 #[.slice (some ⟨g2,0,none⟩) (n+1) c2]:=by rw[<- n8,<- υ7];exact Qo _ _ _
    have E4:=Gs g6 z6;have o6:Below w.heap.size w Z1:=Gs hB E4;refine wpAnyL_o 13 λK hK=>?_;go_simp;(try rw[n8]);(try rw[υ7]);refine hK.out _ _ (λ_=>a2.out _ o6) ?_;clear hK K n8 υ7
    try simp only[Qa,Zhf,Zgs,Zg9]
    have v7:=hM.out.kept E4;have J2:=H6.below z6;have H1:(L.map RF.rs).length+1<=1000:=by rw[Qi];omega
    refine wpAnyL_o 14 λK hK=>?_;rw[Gx Gd];refine Zav _ (.tmp 23) (.tmp 36) 25 rfl w.heap.size 35 iS Tryz.underlying25 ki H0 K0 L5 _ (L.map RF.rs) rfl v7.1 _ (some ⟨gz,0,none⟩) 1 1 [⟨some ⟨g2,0,none⟩,n+1,c2⟩] rfl (Zzx G1) rfl H1 o6.size ?_;intro v5 w5 M2 F3 K9;have s6:=o6.grown F3 o6.size (λk hk=>v7.1.row_ge k hk);have C7:∀ s ∈ L,s.g≠g2:=λs hs=>by have:=J7.out s hs;omega
    have n7:=Za (v7.snoc C9 (r:=⟨g2,c2,Q[i]?.getD [] ++ [xs[i]?.getD 0]⟩) ⟨J2,by rw[y7];exact r0,C5⟩ (Nat.le_trans hB.size C3) C7 (by simp only[RF.rs,y7];exact M2) F3 K9);have L3:Hid (L.map RF.q ++ [Q[i]?.getD [] ++ [xs[i]?.getD 0]]=R.take (i+1)):=Za (by rw[hQ.out,List.take_add_one,z4.out i u];rfl);refine hK.out _ _ (λ_=>a2.out _ s6) ?_;clear hK K
    try simp only[Qa,Zhf,Zgs,Zg9]
    (refine Zj (i:=15) (v:=?_) rfl Gi Gi Gi Gi (Or.inl ⟨by kernel_rfl,?_⟩) (λ_=>(a2.out _ s6)) ?_;rotate_left;(· intro W2 _;go_simp;try with_reducible rfl);try simp only[Qa,Zhf,Zgs,Zg9,Gr,Gq,Gp])
    refine wpAnyL_fin ?_;go_wp2_with fail
    go_roundg (n-(i+1))
    case measure=>omega
    case rel=>exact⟨i+1,_,by omega,by go_num,n7.out,Za (by rw[List.map_append];exact L3.out),s6⟩
  | zero =>
   obtain rfl:n=i:=Gk;have t1:decide ((n:Int)<(n:Int))=false:=Gh;have A3:L.map RF.q=R:=by rw[hQ.out];exact List.take_of_length_le (by rw[m0.out];exact Qb _)
   obtain⟨go,cap,rfl,H7,M0,O8,g4,d6⟩:=hM.mat C9 (λe=>by rw[e]at f6;simp at f6;omega);rw[f6]at H7;simp only[f6];unfold maxLen at M0
   have J1:Hid (∀ k,k ∈ L.map RF.g->w.heap.size<=k):=Za (λk hk=>by
    obtain⟨r,hr,rfl⟩:=List.mem_map.1 hk;exact d6 r hr)
   have M9:Hid (go ∉ L.map RF.g):=Za (List.nodup_cons.1 g4.2.2).1;obtain⟨w1,rfl⟩:=Gy wr;have I6:Hid (∀ k,k ∈ L.map RF.g->∃ t cs,Blk w1 k t cs/\NoLimb cs):=Za (λk hk=>g4.boxes k (.inr hk));have N5:Hid (go<w1.heap.size):=Za (by obtain⟨t,cs,hb,-⟩:=g4.boxes go (.inl rfl);exact hb.lt);have A6:=Za A3;replace g4:=Za g4;replace f6:=Za f6;replace hB:=Za hB;clear hM hQ A3 d6;go_wp2_with fail
   go_loopg [9] n (λk iv wr=>∃ (p:Nat) (L1:List RF),p+k=n/\iv=.int .i64 p/\MatB 35 41 wr go L1/\Hid (L1.length=n)/\Hid (L1.map RF.g=L.map RF.g)/\Hid (L1.map RF.c=L.map RF.c)/\Hid (L1.map RF.q=Zfv R p)/\Hid (posP AR p)/\Kept (λg=>g ∈ L.map RF.g) w1 wr)
   case atStart=>exact⟨0,L,by omega,rfl,g4.out,f6,Za rfl,Za rfl,Za A6.out,Za (λt ht=>by omega),Qn _ _⟩
   case round =>
    clear g4;obtain⟨wp_,rfl⟩:=Gy wr;obtain⟨p,L1,P0,rfl,hM,d0,K2,D4,w9,a0,hK⟩:=hrel;have aK:Hid (Below w.heap.size w wp_):=Za (hB.out.trans (hK.to_below J1.out hB.out.size))
    have hE:Hid (∀ i k,i<n->min p i<=k->(Zde L1 i)[k]?.getD 0=Zr AR p i k):=Za (λi k hi hk=>by
     rw[<- Zkr,w9.out,<- l9.out];exact Ze5 m0.out j6.out p Gk i k hi hk)
    have a5:Hid (∀ i,i<n->(Zde L1 i).length=n+1):=Za (λi hi=>by
     rw[Zn7,w9.out];exact Zk9 j6.out p i (by rw[m0.out];exact hi))
    cases gk with
    | zero =>
     obtain rfl:n=p:=Gk;have t2:decide ((n:Int)<(n:Int))=false:=Gh;have I3:Hid (∀ i k,i<n->i<=k->(Zde L1 i)[k]?.getD 0=Zr AR i i k):=Za (λi k hi hk=>by rw[hE.out i k hi Gk,Znc Gk]);have T:=hX.out a0.out;obtain⟨E,i2⟩:∃ E:Nat->Nat->Rat,(λi j=>Zr AR i i j)=E:=⟨_,rfl⟩;rw[i2]at T;have υ9:Hid (∀ i k,i<n->i<=k->(Zde L1 i)[k]?.getD 0=E i k):=Za (λi k hi hk=>by rw[I3.out i k hi hk,<- i2]);have t6:Hid (∀ i k,i<n->SmN 380 380 (E i k)):=Za (λi k hi=>by rw[<- i2];exact hs.out i i k Gk (a0.out.mono Gk) hi);have G5:Hid (∀ i,i<n->E i i≠0):=Za (λi hi=>by rw[<- i2];exact a0.out.ne hi);obtain⟨e1,e2,e3⟩:=T;replace e1:=Za e1;replace e2:=Za e2;replace e3:=Za e3;replace i2:=Za i2;have G8:=Zv8 (P:=Tryz.prog) 35 41 Tryz.underlying35 hi l4 j7 k3 (n:Int) n rfl Gk wp_;obtain⟨gO,j0⟩:=Gz wp_.heap.size;obtain⟨X2,v6,υ6,-,-,-,sX⟩:=Zn 41 (Zx (Qe n Zas)) (Qc wp_.heap.size wp_) (Qb _);have hO:FTail 41 X2 gO n n (λi=>X i n):=by rw[<- v6,<- j0];exact FTail.new _ _ _ _
     have h8:=Za (hM.below υ6);have D9:Hid (Below w.heap.size w X2):=Gn aK υ6;have C1:Hid (w.heap.size<=gO):=Za (by rw[<- j0];exact aK.out.size)
     have D7:Hid (go≠gO):=Za (by
      obtain⟨t,cs,hb,-⟩:=hM.boxes go (.inl rfl);have:=hb.lt;omega)
     have z8:Hid (∀ r ∈ L1,r.g≠gO):=Za (λr hr=>by
      obtain⟨t,cs,hb,-⟩:=hM.boxes r.g (.inr (List.mem_map.2 ⟨r,hr,rfl⟩));have:=hb.lt;omega)
     have P5:Hid (∃ t cs,Blk X2 gO t cs/\NoLimb cs):=Za hO.raw.box;have G0:IntKind.i64.wrap ((n:Int)-1)=(n:Int)-1:=by rw[IntKind.wrap_i64];omega
     replace hO:=Za hO;replace hK:=Za hK;clear hM υ6 sX;go_wp2_with fail;(try rw[v6]);(try rw[j0]);clear G8 v6;replace j0:=Za j0
     go_loopg [14] n (λk iv wr=>iv=.int .i64 ((k:Int)-1)/\k<=n/\MatB 35 41 wr go L1/\FTail 41 wr gO n k (λi=>X i n)/\Kept (λg=>g=gO) X2 wr)
     case atStart=>exact⟨by go_num,Qb _,h8.out,hO.out,Qn _ _⟩
     case round =>
      clear h8 hO G0;obtain⟨f8,rfl⟩:=Gy wr;obtain⟨rfl,O1,hM,hO,a7⟩:=hrel;cases gk with
      | zero =>
       have t3:decide ((0:Int)<=((0:Nat):Int)-1)=false:=Gj;have D0:decide ((0:Int) <= -1)=false:=Gj;have K3:=Za (hO.fl (by unfold maxLen;omega));have G2:Hid (Below w.heap.size w f8):=Za (D9.out.trans (a7.to_below (λk e=>by have:=C1.out;omega) D9.out.size));have U:=a0;replace hM:=Za hM;replace a7:=Za a7;replace hO:=Za hO;go_wp2_with fail;go_returns;exact⟨G2.out,.inl ⟨U.out,_,_,rfl,K3.out⟩⟩
      | succ i =>
       have e9:((i+1:Nat):Int)-1=(i:Int):=Gk;rw[e9];have u:i<n:=Gk;have t3:decide ((0:Int)<=(i:Int))=true:=Gv Gk;have bi:(i:Int)<(n:Int):=Gk;have bnn:(n:Int)<((n+1:Nat):Int):=Gk;have M6:(n:Int)<(n:Int)+1:=Gk;obtain⟨ri,O⟩:=Zb3 (L:=L1) (i:=i) (by rw[d0.out];exact u);have b1:ri.q=Zde L1 i:=(Zgp O).symm;have c7:ri.q.length=n+1:=by rw[b1];exact a5.out i u
       obtain⟨ci,zi⟩:=hM.cell O;obtain⟨fi,x7,r8⟩:=hM.row O;rw[c7]at ci x7;unfold maxLen at r8;obtain⟨xn,xA,xk,xc,xm,xB,xj,xd,p0,p1,p2,p3,bV⟩:=fi.at_ (i:=n) (by rw[c7];omega);rw[b1,υ9.out i n u Gk]at bV;obtain⟨V1,H2,i8,a1,s1⟩:=Zam f8 41 #[.bool false,.slice none 0 0,.bool false,.slice none 0 0];obtain⟨gs,d6⟩:=Gz f8.heap.size;rw[d6]at a1 s1;obtain⟨υ0,υ1,υ2,υ3,v0,v1,v2,v3⟩:=a1.four;obtain⟨W4,D5,a4,D2,s4⟩:=Zau xn xA xk xc xm xB xj xd a1;have e7:Below f8.heap.size f8 W4:=i8.trans (D2.to_below (λk e=>by omega) i8.size);have I5:Hid (W4.heap.size=gs+1):=Za (by rw[s4,s1]);have z5:=Za (bV.below e7);have P2:=Za (hM.below e7);have O2:=Za (hO.below e7);have M5:Hid (Kept (λg=>g=gO) X2 W4):=Za (a7.below e7);have I8:Hid (upS E X i n (i+1)=E i n):=Za (Zub _ _ _ _ _ (Qb _));have K6:IntKind.i64.wrap ((i:Int)+1)=((i+1:Nat):Int):=by rw[IntKind.wrap_i64];omega
       have N1:IntKind.i64.wrap ((i:Int)-1)=(i:Int)-1:=by rw[IntKind.wrap_i64];omega
       have M7:Hid (gO<gs):=Za (by have:=hO.raw.lt;omega);replace e7:=Za e7;replace a4:=Za a4;replace hM:=Za hM;replace hO:=Za hO;replace a7:=Za a7;clear bV i8 D2 s1 s4 fi b1;go_wp2_with fail;(try rw[d6]);(try rw[D5]);clear υ0 υ1 υ2 υ3 v0 v1 v2 v3 a1 H2 D5 p0 p1 p2 p3 ci zi;replace d6:=Za d6
       go_loopg [16] (n-(i+1)) (λk kv wr=>∃ (t:Nat) (sn:Bool) (sA:Option Addr) (sk sc:Nat) (sm:Bool) (sB:Option Addr) (sj sd:Nat),t+k=n/\kv=.int .i64 t/\i+1<=t/\Blk wr gs 41 #[.bool sn,.slice sA sk sc,.bool sm,.slice sB sj sd]/\Hid (Fr wr sn sA sk sc sm sB sj sd (upS E X i n t))/\Kept (λg=>g=gs) W4 wr)
       case atStart=>exact⟨i+1,_,_,_,_,_,_,_,_,by omega,by go_num,Qb _,a4.out,Za (by rw[I8.out];exact z5.out),Qn _ _⟩
       case round =>
        clear a4 z5 K6;obtain⟨wj,rfl⟩:=Gy wr;obtain⟨t,sn,sA,sk,sc,sm,sB,sj,sd,N9,rfl,K1,C8,B6,E6⟩:=hrel;have N0:=I5.out;have N3:=d6.out;have p6:Hid (Below f8.heap.size f8 wj):=Za (e7.out.trans (E6.to_below (λk e=>by omega) Gk));have i1:=hM.out.below p6.out;have b3:=hO.out.below p6.out;obtain⟨ci,zi⟩:=i1.cell O;obtain⟨fi,-,-⟩:=i1.row O;rw[c7]at ci;have b1:ri.q=Zde L1 i:=(Zgp O).symm;obtain⟨s0,s1,s2,s3,y0,y1,y2,y3⟩:=C8.four;cases gk with
        | succ k' =>
         obtain rfl:k'=n-(t+1):=Gk;have F9:t<n:=Gk;have t4:decide ((t:Int)<(n:Int))=true:=Gv Gk;have bt:(t:Int)<(n:Int):=Gk;have O0:(t:Int)<((n+1:Nat):Int):=Gk;have P3:(t:Int)<(n:Int)+1:=Gk;obtain⟨an,aA,ak,ac,am,aB,aj,ad,p0,p1,p2,p3,i9⟩:=fi.at_ (i:=t) (by rw[c7];omega);rw[b1,υ9.out i t u Gk]at i9;obtain⟨on_,oA,ok,oc,om,oB,oj,od,o0,o1,o2,o3,L9⟩:=b3.at_ (j:=t) K1 F9;have sa:=(t6.out i t u).sm (i:=380) Gj Gj;have sx:=(e2.out t).sm (i:=300) Gj Gj;have sp:Sm (E i t*X t n):=((t6.out i t u).mulN (e2.out t)).sm Gj Gj;have su:=(e3.out i t).sm (i:=400) Gj Gj;clear fi i1 b3;go_wp2_with fail;obtain⟨X0,T⟩:=Gz wj.drew;have I:Below wj.heap.size wj X0:=by rw[<- T];exact Zf (Qc _ _) 1
         have y:Hid (∀ wx,Below wj.heap.size wj wx->wx.cell? ⟨gs,0,none⟩=some (.bool sn)/\wx.cell? ⟨gs,1,none⟩=some (.slice sA sk sc)/\wx.cell? ⟨gs,2,none⟩=some (.bool sm)/\wx.cell? ⟨gs,3,none⟩=some (.slice sB sj sd)/\wx.cell? ⟨go,i,none⟩=some (.slice (some ⟨ri.g,0,none⟩) (n+1) ri.c)/\wx.cell? ⟨ri.g,t*4,none⟩=some (.bool an)/\wx.cell? ⟨ri.g,t*4+1,none⟩=some (.slice aA ak ac)/\wx.cell? ⟨ri.g,t*4+2,none⟩=some (.bool am)/\wx.cell? ⟨ri.g,t*4+3,none⟩=some (.slice aB aj ad)/\wx.cell? ⟨gO,t*4,none⟩=some (.bool on_)/\wx.cell? ⟨gO,t*4+1,none⟩=some (.slice oA ok oc)/\wx.cell? ⟨gO,t*4+2,none⟩=some (.bool om)/\wx.cell? ⟨gO,t*4+3,none⟩=some (.slice oB oj od)):=Za (λwx f=>⟨Zb f s0,Zb f s1,Zb f s2,Zb f s3,Zb f ci,Zb f p0,Zb f p1,Zb f p2,Zb f p3,Zb f o0,Zb f o1,Zb f o2,Zb f o3⟩);refine wp_heldS [14] hmx y (by rw[T];exact I) (λhxs=>?_);rw[T];refine Zke 12 [0,1,2,3,4,5,6,7,8,9,10,11] rfl Gi (y.out _ I) ?_
         iterate 12 (refine tkA ?_;try simp only[Qa,Zhf,Zgs,Zg9,Gr,Gq,Gp])
         refine tk0 ?_;refine wpAnyL_o 12 λK hK=>?_;go_simp;refine(Zly an aA ak ac am aB aj ad on_ oA ok oc om oB oj od _ _ X0 (i9.below I) (L9.below I) sa sx).mono ?_;rintro e e5 ⟨d9,yn,yA,yk,yc,ym,yB,yj,yd,rfl,hy⟩;have C:=Gs I d9;refine hK.out _ _ (λ_=>y.out _ C) ?_;clear hK K
         try simp only[Qa,Zhf,Zgs,Zg9]
         refine wpAnyL_o 13 λK hK=>?_;go_simp;refine(Zl3 sn sA sk sc sm sB sj sd yn yA yk yc ym yB yj yd _ _ e5 (B6.out.below C) hy su sp).mono ?_;rintro e F2 ⟨l5,zn,zA,zk,zc,zm,zB,zj,zd,rfl,hz⟩;have J:=Gs C l5;refine hK.out _ _ (λ_=>y.out _ J) ?_;clear hK K
         try simp only[Qa,Zhf,Zgs,Zg9]
         have m7:=Zc J C8;obtain⟨f0,f1,f2,f3,G9,I7,G7,K4⟩:=m7.four;obtain⟨W7,E8,p7,w4,s7⟩:=Zau zn zA zk zc zm zB zj zd m7;have I9:=Za (hz.keptN w4 m7 (Za6 _ _ _ _ _ _ _ _));have J9:Hid (Kept (λg=>g=gs) W4 W7):=Za ((E6.below J).trans w4);replace p7:=Za p7;clear w4 hz hy;refine Zu (i:=14) rfl Gi Gi (λK hK=>?_);go_simp;(try rw[E8]);refine hK.out _ _ ?_;clear hK K
         try simp only[Qa,Zhf,Zgs,Zg9]
         refine wpAnyL_fin ?_;clear E8 f0 f1 f2 f3 G9 I7 G7 K4 m7 y hxs I J T s0 s1 s2 s3 p0 p1 p2 p3 o0 o1 o2 o3;have J4:Hid (Fr W7 zn zA zk zc zm zB zj zd (upS E X i n (t+1))):=Za (by rw[Zr4 _ _ Gk];exact I9.out);go_wp2_with fail
         go_roundg (n-(t+1))
         case measure=>omega
         case rel=>exact⟨t+1,_,_,_,_,_,_,_,_,by omega,by go_num,by omega,p7.out,J4,J9.out⟩
        | zero =>
         obtain rfl:n=t:=Gk;have t4:decide ((n:Int)<(n:Int))=false:=Gh;have P6:(i:Int)<((n+1:Nat):Int):=Gk;have N7:(i:Int)<(n:Int)+1:=Gk;obtain⟨an,aA,ak,ac,am,aB,aj,ad,p0,p1,p2,p3,i9⟩:=fi.at_ (i:=i) (by rw[c7];omega);rw[b1,υ9.out i i u Gk]at i9;obtain⟨on_,oA,ok,oc,om,oB,oj,od,o0,o1,o2,o3⟩:=b3.raw.cells u;have E0:=b3.raw.frozen (i*4);have D3:=b3.raw.frozen (i*4+1);have A8:=b3.raw.frozen (i*4+2);have E3:=b3.raw.frozen (i*4+3);have sa:=(t6.out i i u).sm (i:=380) Gj Gj;have su:=(e3.out i n).sm (i:=400) Gj Gj;replace i1:=Za i1;replace b3:=Za b3;clear fi;go_wp2_with fail;obtain⟨X0,T⟩:=Gz wj.drew;have I:Below wj.heap.size wj X0:=by rw[<- T];exact Zf (Qc _ _) 1
         have y:Hid (∀ wx,Below wj.heap.size wj wx->wx.cell? ⟨gs,0,none⟩=some (.bool sn)/\wx.cell? ⟨gs,1,none⟩=some (.slice sA sk sc)/\wx.cell? ⟨gs,2,none⟩=some (.bool sm)/\wx.cell? ⟨gs,3,none⟩=some (.slice sB sj sd)/\wx.cell? ⟨go,i,none⟩=some (.slice (some ⟨ri.g,0,none⟩) (n+1) ri.c)/\wx.cell? ⟨ri.g,i*4,none⟩=some (.bool an)/\wx.cell? ⟨ri.g,i*4+1,none⟩=some (.slice aA ak ac)/\wx.cell? ⟨ri.g,i*4+2,none⟩=some (.bool am)/\wx.cell? ⟨ri.g,i*4+3,none⟩=some (.slice aB aj ad)):=Za (λwx f=>⟨Zb f s0,Zb f s1,Zb f s2,Zb f s3,Zb f ci,Zb f p0,Zb f p1,Zb f p2,Zb f p3⟩);refine wp_heldS [12] hmx y (by rw[T];exact I) (λhxs=>?_);rw[T];refine Zke 10 [0,1,2,3,4,5,6,7,8,9] rfl Gi (y.out _ I) ?_
         iterate 10 (refine tkA ?_;try simp only[Qa,Zhf,Zgs,Zg9,Gr,Gq,Gp])
         refine tk0 ?_;refine wpAnyL_o 10 λK hK=>?_;go_simp;refine(Zms sn sA sk sc sm sB sj sd an aA ak ac am aB aj ad _ _ X0 (B6.out.below I) (i9.below I) su sa (G5.out i u)).mono ?_;rintro e e5 ⟨d9,zn,zA,zk,zc,zm,zB,zj,zd,rfl,hz⟩;have C:=Gs I d9;refine hK.out _ _ (λ_=>y.out _ C) ?_;clear hK K
         try simp only[Qa,Zhf,Zgs,Zg9]
         refine Zgt 1 [11] rfl Gi (y.out _ C) ?_
         (refine tkA ?_;try simp only[Qa,Zhf,Zgs,Zg9,Gr,Gq,Gp])
         refine tk0 ?_;have x8:=b3.out.below C;have B7:=i1.out.below C;have I4:Hid (upS E X i n n/E i i=X i n):=Za (e1.out i u).symm;rw[I4.out]at hz;obtain⟨Z9,d3⟩:=Gz (Zgh e5 gO i zn zA zk zc zm zB zj zd);have a8:=d3;unfold Zgh at a8;have s8:Kept (λg=>g=gO) e5 Z9:=by rw[<- d3];exact Zqa (Qn _ _) (.inl rfl)
         have G3:Hid (FTail 41 Z9 gO n i (λi=>X i n)):=Za (by rw[<- d3];exact x8.set_ u hz);have J8:∀ k,k=gO->∃ t cs,Blk e5 k t cs/\NoLimb cs:=λk hk=>by rw[hk];exact x8.raw.box
         have w3:Hid (MatB 35 41 Z9 go L1):=Za (B7.keptG s8 D7.out (λr hr=>z8.out r hr) J8);have v8:Hid (Kept (λg=>g=gO) X2 Z9):=Za ((a7.out.below (Gs p6.out C)).trans s8);have f0:=Zl C o0 E0;have f1:=Zl C o1 D3;have f2:=Zl C o2 A8;have f3:=Zl C o3 E3;have g0:=Zb C o0;have g1:=Zb C o1;have g2:=Zb C o2;have g3:=Zb C o3;clear x8 B7 d3 s8 hz;refine Zu (i:=12) rfl Gi Gi (λK hK=>?_);go_simp;(try rw[a8]);refine hK.out _ _ ?_;clear hK K
         try simp only[Qa,Zhf,Zgs,Zg9]
         refine wpAnyL_fin ?_;clear a8 f0 f1 f2 f3 g0 g1 g2 g3 C I y hxs T s0 s1 s2 s3 p0 p1 p2 p3 o0 o1 o2 o3 E0 D3 A8 E3;go_wp2_with fail
         go_roundg i
         case measure=>omega
         case rel=>exact⟨by go_num,by omega,w3.out,G3.out,v8.out⟩
    | succ j =>
     obtain rfl:j=n-(p+1):=Gk;have U:p<n:=Gk;have t2:decide ((p:Int)<(n:Int))=true:=Gv Gk;have bp:(p:Int)<(n:Int):=Gk;have P7:(p:Int)<(n:Int)+1:=Gk;have bpn:(p:Int)<((n+1:Nat):Int):=Gk;obtain⟨rp,w2⟩:=Zb3 (L:=L1) (i:=p) (by rw[d0.out];exact U);have fq:rp.q=Zde L1 p:=(Zgp w2).symm;have fh:rp.q.length=n+1:=by rw[fq];exact a5.out p U
     obtain⟨cp,zp⟩:=hM.cell w2;obtain⟨fp,J5,I2⟩:=hM.row w2;rw[fh]at cp J5;unfold maxLen at I2;obtain⟨n1,A1,k1,c1,m1,B1,j1,d1,p0,p1,p2,p3,bV⟩:=fp.at_ (i:=p) (by rw[fh];omega);rw[fq,hE.out p p U Gk]at bV;have l7:Hid (Zr AR p p p=dQ AR p):=Za rfl;have V:=bV.pos_iff;have O9:IntKind.i64.wrap ((p:Int)+1)=((p+1:Nat):Int):=by rw[IntKind.wrap_i64];omega
     cases n1
     case true =>
      have iH:Hid (¬ posP AR n):=Za (λh=>by have:=V.2 (by rw[l7.out];exact h p U);simp at this);replace hM:=Za hM;replace hK:=Za hK;replace V:=Za V;exact IA
     by_cases e4:k1=0
     case pos =>
      have iH:Hid (¬ posP AR n):=Za (λh=>(V.2 (by rw[l7.out];exact h p U)).2 e4);have t3:((k1:Int) == 0)=true:=by simp[e4]
      have D0:decide (k1=0)=true:=by simpa using e4
      replace hM:=Za hM;replace hK:=Za hK;replace V:=Za V;have q9:=bV.1.2.1;subst e4;exact IA
     have f7:Hid (posP AR (p+1)):=Za (λt ht=>by
      rcases Qh t p with h1|h1;exact a0.out t h1;rw[show t=p by omega];exact(by rw[<- l7.out];exact V.1 ⟨rfl,e4⟩))
     have t3:((k1:Int) == 0)=false:=by simp;omega
     have D0:decide (k1=0)=false:=by simpa using e4
     have q9:=bV.1.2.1;replace hM:=Za hM;replace hK:=Za hK;replace V:=Za V;replace e4:=Za e4;clear fp fq fh bV;go_wp2_with fail
     go_loopg [10] (n-(p+1)) (λk iv wr=>∃ (i:Nat) (L2:List RF),i+k=n/\iv=.int .i64 i/\p+1<=i/\MatB 35 41 wr go L2/\Hid (L2.length=n)/\Hid (L2.map RF.g=L.map RF.g)/\Hid (L2.map RF.c=L.map RF.c)/\Hid (ClrTo L1 L2 p p i)/\Kept (λg=>g ∈ L.map RF.g) w1 wr)
     case atStart=>exact⟨p+1,L1,by omega,by go_num,Qb _,hM.out,d0,K2,D4,Za (λj hj=>by by_cases h1:j<=p \/ p+1<=j;rw[Gx h1];exact absurd h1 Gk),hK.out⟩
     case round =>
      clear hM hK cp zp p0 p1 p2 p3 q9;obtain⟨wi,rfl⟩:=Gy wr;obtain⟨i,L2,L4,rfl,O3,hM,b2,j8,r5,q4,hK⟩:=hrel;cases gk with
      | zero =>
       obtain rfl:n=i:=Gk;have t4:decide ((n:Int)<(n:Int))=false:=Gh
       have hfin:Hid (L2.map RF.q=Zfv R (p+1)):=Za (by
        rw[ClrTo.done (by rw[d0.out];exact q4.out) (by rw[b2.out,d0.out]),w9.out];rfl)
       replace hM:=Za hM;replace hK:=Za hK;go_wp2_with fail
       go_roundg (n-(p+1))
       case measure=>omega
       case rel=>exact⟨p+1,L2,by omega,by go_num,hM.out,b2,j8,r5,hfin,f7,hK.out⟩
      | succ j =>
       obtain rfl:j=n-(i+1):=Gk;have u:i<n:=Gk;have t4:decide ((i:Int)<(n:Int))=true:=Gv Gk;have bi:(i:Int)<(n:Int):=Gk;obtain⟨ri,O⟩:=Zb3 (L:=L2) (i:=i) (by rw[b2.out];exact u);obtain⟨r2,g5⟩:=Zb3 (L:=L2) (i:=p) (by rw[b2.out];exact U)
       have b1:ri.q=Zde L1 i:=by
        have:=q4.out i (by rw[d0.out];exact u);rw[Zgp O,Gx (Or.inr (Qb i))]at this;exact this
       have x5:r2.q=Zde L1 p:=by
        have:=q4.out p (by rw[d0.out];exact U);rw[Zgp g5,Gx (Or.inl (Qb p))]at this;exact this
       have c7:ri.q.length=n+1:=by rw[b1];exact a5.out i u
       have o4:r2.q.length=n+1:=by rw[x5];exact a5.out p U
       obtain⟨ci,zi⟩:=hM.cell O;obtain⟨cr,zr⟩:=hM.cell g5;obtain⟨fi,x7,r8⟩:=hM.row O;obtain⟨fr,M4,J0⟩:=hM.row g5;rw[c7]at ci x7;rw[o4]at cr M4;unfold maxLen at r8 J0;have N4:=hM.ne2 O g5 Gk;obtain⟨n1,A1,k1,c1,m1,B1,j1,d1,p0,p1,p2,p3,bV⟩:=fi.at_ (i:=p) (by rw[c7];omega);obtain⟨n2,A2,k2,c2,m2,B2,j2,d2,q0,q1,q2,q3,v9⟩:=fr.at_ (i:=p) (by rw[o4];omega);rw[b1,hE.out i p u Gk]at bV;rw[x5,hE.out p p U Gk]at v9;obtain⟨by_,i7⟩:∃ q:Rat,Zr AR p i p/Zr AR p p p=q:=⟨_,rfl⟩;have r4:Hid (SmN 300 300 by_):=Za (by rw[<- i7];exact hl.out i p Gk u f7.out);have n3:=(hs.out p i p Gk a0.out u).sm (i:=380) Gj Gj;have o5:=(hs.out p p p Gk a0.out U).sm (i:=380) Gj Gj;have F0:Hid (Zr AR p p p≠0):=Za (λh=>by have:=f7.out p Gk;rw[<- l7.out,h]at this;exact absurd this Gj);replace i7:=Za i7;have N8:=Za fi;have N6:=Za fr;clear fi fr;replace hM:=Za hM;replace hK:=Za hK;go_wp2_with fail
       have y:Hid (∀ wx,Below wi.heap.size wi wx->wx.cell? ⟨go,i,none⟩=some (.slice (some ⟨ri.g,0,none⟩) (n+1) ri.c)/\wx.cell? ⟨go,p,none⟩=some (.slice (some ⟨r2.g,0,none⟩) (n+1) r2.c)/\wx.cell? ⟨ri.g,p*4,none⟩=some (.bool n1)/\wx.cell? ⟨ri.g,p*4+1,none⟩=some (.slice A1 k1 c1)/\wx.cell? ⟨ri.g,p*4+2,none⟩=some (.bool m1)/\wx.cell? ⟨ri.g,p*4+3,none⟩=some (.slice B1 j1 d1)/\wx.cell? ⟨r2.g,p*4,none⟩=some (.bool n2)/\wx.cell? ⟨r2.g,p*4+1,none⟩=some (.slice A2 k2 c2)/\wx.cell? ⟨r2.g,p*4+2,none⟩=some (.bool m2)/\wx.cell? ⟨r2.g,p*4+3,none⟩=some (.slice B2 j2 d2)):=Za (λwx f=>⟨Zb f ci,Zb f cr,Zb f p0,Zb f p1,Zb f p2,Zb f p3,Zb f q0,Zb f q1,Zb f q2,Zb f q3⟩);have I:Below wi.heap.size wi wi.drew:=Zf (Qc _ _) 1;refine wp_heldS [] hmx y I (λhxs1=>?_);refine Zke 14 [0,1,2,3,4,5,6,7,8,9,10,11,12,13] rfl Gi (y.out _ I) ?_
       iterate 14 (refine tkA ?_;try simp only[Qa,Zhf,Zgs,Zg9,Gr,Gq,Gp])
       refine tk0 ?_;refine Za8 [(14,88),(15,11)] (λ_=>[]) [(14,88),(15,11)] (Zm9 wi.heap.size (Zr AR p i p/Zr AR p p p) 14 15) 1 Gi (λ_ _ _ _ _ hb h=>Zun hb h) (λwx h=>y.out _ (Gs I h)) ?hop1 ?hfin1
       case hop1 =>
        intro p hp;simp only[List.mem_cons,List.not_mem_nil,or_false]at hp;simp only[Qp,Qs,Zap,Qa,Zhf,Zgs,Zg9];rcases hp with rfl|rfl
        ·intro ν wx hb hP
         have f:=Gs I hb;refine Zm (i:=14) rfl (λK hK=>?_);go_simp;refine(Zms n1 A1 k1 c1 m1 B1 j1 d1 n2 A2 k2 c2 m2 B2 j2 d2 _ _ wx (bV.below f) (v9.below f) n3 o5 F0.out).mono ?_;rintro e w5 ⟨H4,O7,A5,k5,c5,O5,B5,m5,d5,rfl,i6⟩;exact hK.out _ _ ⟨_,rfl,(by simp only[Zm9];exact⟨_,_,_,_,_,_,_,_,rfl,i6⟩),H4,trivial⟩
        intro ν wx hb hP;refine Zm (i:=15) rfl (λK hK=>?_);go_simp;exact hK.out _ _ ⟨_,rfl,(by simp only[Zm9];exact⟨_,rfl,hb.size,Qo _ _ _⟩),(Qc _ _).alloc (Qb _) _,trivial⟩
       case hfin1 =>
        intro ν wx hb hP;have h0:=hP (14,88) Gh;have h4:=hP (15,11) Gh;simp only[Zm9]at h0 h4;obtain⟨bbn,m8,bbk,bbc,bbm,n9,bbj,bbd,h0,bbf⟩:=h0;obtain⟨gbb,h4,kv,qv⟩:=h4;simp only[Qp,Qs,Zap,Qa,Zhf,Zgs,Zg9];rw[h0,h4];clear h0 h4 hP ν;have f:=Gs I hb;have c8:=qv.four;have z3:wi.heap.size<=gbb:=kv;refine(Z7 bbn m8 bbk bbc bbm n9 bbj bbd f z3 qv).elim (λZbb hq=>?_);have c0:=c8.1;have l0:=c8.2.1;have G6:=c8.2.2.1;have c3:=c8.2.2.2.1;have f0:=c8.2.2.2.2.1;have f1:=c8.2.2.2.2.2.1;have f2:=c8.2.2.2.2.2.2.1;have f3:=c8.2.2.2.2.2.2.2;have hZ:=hq.1;refine wpAnyL_o 16 λK hK=>?_;go_simp;(try rw[hZ]);refine hK.out _ _ (λ_=>y.out _ hq.2.1) ?_;clear hK K
        try simp only[Qa,Zhf,Zgs,Zg9]
        refine wpAnyL_fin ?_;have e8:=hq.2.1;have bbb:=Za hq.2.2.1;have A7:Hid (wi.heap.size<=gbb):=Za z3;replace bbf:=Za (Fr.keep bbf hq.2.2.2.1);clear hq hZ c0 l0 G6 c3 f0 f1 f2 f3 c8 qv kv z3 f hb I y hxs1;rw[i7.out]at bbf;have h8:=hM.out.below e8;have a7:Kept (λg=>g ∈ L.map RF.g) w1 Zbb:=hK.out.below e8
        have H5:Hid (gbb ∉ L.map RF.g):=Za (λhmem=>by
         obtain⟨t,cs,hb,-⟩:=I6.out gbb hmem;have:=hb.lt;have:=hK.out.size;have:=A7.out;omega)
        have C6:Hid (∀ k,k ∈ L.map RF.g->∃ t cs,Blk Zbb k t cs/\NoLimb cs):=Za (λk hk=>h8.boxes k (.inr (by rw[j8.out];exact hk)));have G4:Hid (ri.g ∈ L.map RF.g):=Za (by rw[<- j8.out];exact List.mem_map.2 ⟨ri,Ql O,rfl⟩);have P8:Hid (r2.g ∈ L.map RF.g):=Za (by rw[<- j8.out];exact List.mem_map.2 ⟨r2,Ql g5,rfl⟩);clear hK hM p0 p1 p2 p3 q0 q1 q2 q3 n3 o5 bV v9 ci cr zi zr e8;replace a7:=Za a7;go_wp2_with fail
        go_loopg [12] (n+1-p) (λk iv wr=>∃ (j:Nat) (q3:List Rat),j+k=n+1/\iv=.int .i64 j/\p<=j/\MatB 35 41 wr go (L2.set i ⟨ri.g,ri.c,q3⟩)/\Hid (q3.length=n+1)/\Hid (∀ t:Nat,q3[t]?.getD 0=if p<=t/\t<j then (Zde L1 i)[t]?.getD 0-by_*(Zde L1 p)[t]?.getD 0 else (Zde L1 i)[t]?.getD 0)/\Kept (λg=>g ∈ L.map RF.g) Zbb wr)
        case atStart =>
         refine⟨p,ri.q,by omega,rfl,Qb _,?_,Za c7,Za (λt=>by rw[Gw Gk,b1]),Qn _ _⟩
         have e:L2.set i ⟨ri.g,ri.c,ri.q⟩=L2:=by
          apply Qz;intro t;rw[Qg]
          split
          rename_i h;subst h;rw[Gx (by rw[b2.out];exact u),O];rfl
         rw[e];exact h8
        case round =>
         clear h8;obtain⟨wj,rfl⟩:=Gy wr;obtain⟨j,q3,P4,rfl,F8,a6,h7,v4,c6⟩:=hrel;obtain⟨c0,z0⟩:=a6.cell (i:=i) (r:=⟨ri.g,ri.c,q3⟩) (by rw[Qg,Gx rfl,Gx (by rw[b2.out];exact u)]);simp only[h7.out]at c0;cases gk with
         | zero =>
          obtain rfl:j=n+1:=Gk;have t5:decide (((n+1:Nat):Int)<=(n:Int))=false:=Gu Gk;have P1:decide ((n:Int)+1<=(n:Int))=false:=Gu Gk
          have c9:Hid ((L2.set i ⟨ri.g,ri.c,q3⟩).length=n/\(L2.set i ⟨ri.g,ri.c,q3⟩).map RF.g=L.map RF.g/\(L2.set i ⟨ri.g,ri.c,q3⟩).map RF.c=L.map RF.c/\ClrTo L1 (L2.set i ⟨ri.g,ri.c,q3⟩) p p (i+1)):=Za (by
           refine⟨by rw[Qw];exact b2.out,?_,?_,?_⟩;rw[Ze1 (s:=⟨ri.g,ri.c,q3⟩) O rfl];exact j8.out;rw[Ze1 (s:=⟨ri.g,ri.c,q3⟩) O rfl];exact r5.out;refine q4.out.step (by rw[b2.out,d0.out]) (by rw[d0.out];exact u) Gk ?_;refine rowR_eq (by rw[h7.out,a5.out i u]) (λt=>?_);rw[v4.out t,a5.out i u,hE.out i p u Gk,hE.out p p U Gk,i7.out])
          have I1:Hid (Kept (λg=>g ∈ L.map RF.g) w1 wj):=Za (a7.out.trans c6);replace a6:=Za a6;clear c6;go_wp2_with fail
          go_roundg (n-(i+1))
          case measure=>omega
          case rel=>exact⟨i+1,_,by omega,by go_num,by omega,a6.out,Za c9.out.1,Za c9.out.2.1,Za c9.out.2.2.1,Za c9.out.2.2.2,I1.out⟩
         | succ gk' =>
          obtain rfl:gk'=n-j:=Gk;have m9:j<n+1:=Gk;have t5:decide ((j:Int)<=(n:Int))=true:=Gv Gk;have bj:(j:Int)<(n:Int)+1:=Gk;have O4:(j:Int)<((n+1:Nat):Int):=Gk;obtain⟨l0,z1⟩:=a6.cell (i:=p) (r:=r2) (by rw[Qg,Gw Gk];exact g5);rw[o4]at l0;obtain⟨f3,-,-⟩:=a6.row (i:=i) (r:=⟨ri.g,ri.c,q3⟩) (by rw[Qg,Gx rfl,Gx (by rw[b2.out];exact u)]);obtain⟨f4,-,-⟩:=a6.row (i:=p) (r:=r2) (by rw[Qg,Gw Gk];exact g5);obtain⟨n4,A4,k4,c4,m4,B4,j4,d4,q0,q1,q2,D1,D8⟩:=f4.at_ (i:=j) (by rw[o4];exact m9);rw[x5]at D8;have B9:=c6.blk bbb.out H5.out;obtain⟨x0,x1,x2,x3,-⟩:=B9.four;have M3:Fr wj bbn m8 bbk bbc bbm n9 bbj bbd by_:=⟨c6.wd bbf.out.1 C6.out,c6.wd bbf.out.2 C6.out⟩;have q6:=h7.out;obtain⟨n5,A5,k5,c5,m5,B5,j5,d5,υ0,υ1,υ2,υ3,i6⟩:=f3.at_ (i:=j) (by rw[q6];exact m9)
          have q5:q3[j]?.getD 0=(Zde L1 i)[j]?.getD 0:=by
           have h1:=v4.out j;rw[Gw Gk]at h1;exact h1
          simp only[q5]at i6;have v0:=f3.frozen (j*4);have v1:=f3.frozen (j*4+1);have v2:=f3.frozen (j*4+2);have v3:=f3.frozen (j*4+3);have L6:Hid (SmN 380 380 ((Zde L1 i)[j]?.getD 0)):=Za (by rw[hE.out i j u Gk];exact hs.out p i j Gk a0.out u);have E2:Hid (SmN 380 380 ((Zde L1 p)[j]?.getD 0)):=Za (by rw[hE.out p j U Gk];exact hs.out p p j Gk a0.out U);have n3:=r4.out.sm (i:=300) Gj Gj;have o5:=E2.out.sm (i:=380) Gj Gj;have L8:=L6.out.sm (i:=380) Gj Gj;have K8:Sm (by_*(Zde L1 p)[j]?.getD 0):=(r4.out.mulN E2.out).sm Gj Gj;replace a6:=Za a6;replace c6:=Za c6;clear f4 B9 f3 q6 q5;go_wp2_with fail;obtain⟨X0,T⟩:=Gz wj.drew;have I:Below wj.heap.size wj X0:=by rw[<- T];exact Zf (Qc _ _) 1
          have y:Hid (∀ wx,Below wj.heap.size wj wx->wx.cell? ⟨go,i,none⟩=some (.slice (some ⟨ri.g,0,none⟩) (n+1) ri.c)/\wx.cell? ⟨go,p,none⟩=some (.slice (some ⟨r2.g,0,none⟩) (n+1) r2.c)/\wx.cell? ⟨ri.g,j*4,none⟩=some (.bool n5)/\wx.cell? ⟨ri.g,j*4+1,none⟩=some (.slice A5 k5 c5)/\wx.cell? ⟨ri.g,j*4+2,none⟩=some (.bool m5)/\wx.cell? ⟨ri.g,j*4+3,none⟩=some (.slice B5 j5 d5)/\wx.cell? ⟨gbb,0,none⟩=some (.bool bbn)/\wx.cell? ⟨gbb,1,none⟩=some (.slice m8 bbk bbc)/\wx.cell? ⟨gbb,2,none⟩=some (.bool bbm)/\wx.cell? ⟨gbb,3,none⟩=some (.slice n9 bbj bbd)/\wx.cell? ⟨r2.g,j*4,none⟩=some (.bool n4)/\wx.cell? ⟨r2.g,j*4+1,none⟩=some (.slice A4 k4 c4)/\wx.cell? ⟨r2.g,j*4+2,none⟩=some (.bool m4)/\wx.cell? ⟨r2.g,j*4+3,none⟩=some (.slice B4 j4 d4)):=Za (λwx f=>⟨Zb f c0,Zb f l0,Zb f υ0,Zb f υ1,Zb f υ2,Zb f υ3,Zb f x0,Zb f x1,Zb f x2,Zb f x3,Zb f q0,Zb f q1,Zb f q2,Zb f D1⟩);refine wp_heldS [23] hmx y (by rw[T];exact I) (λhxs=>?_);rw[T];refine Zke 20 [0,1,2,3,4,5,6,7,8,9,10,11,12,13,14,15,16,17,18,19] rfl Gi (y.out _ I) ?_
          iterate 20 (refine tkA ?_;try simp only[Qa,Zhf,Zgs,Zg9,Gr,Gq,Gp])
          refine tk0 ?_;refine wpAnyL_o 20 λK hK=>?_;go_simp;refine(Zly bbn m8 bbk bbc bbm n9 bbj bbd n4 A4 k4 c4 m4 B4 j4 d4 _ _ X0 (M3.below I) (D8.below I) n3 o5).mono ?_;rintro e e5 ⟨d9,yn,yA,yk,yc,ym,yB,yj,yd,rfl,hy⟩;have C:=Gs I d9;refine hK.out _ _ (λ_=>y.out _ C) ?_;clear hK K
          try simp only[Qa,Zhf,Zgs,Zg9]
          refine wpAnyL_o 21 λK hK=>?_;go_simp;refine(Zl3 n5 A5 k5 c5 m5 B5 j5 d5 yn yA yk yc ym yB yj yd _ _ e5 (i6.below C) hy L8 K8).mono ?_;rintro e F2 ⟨l5,zn,zA,zk,zc,zm,zB,zj,zd,rfl,hz⟩;have J:=Gs C l5;refine hK.out _ _ (λ_=>y.out _ J) ?_;clear hK K
          try simp only[Qa,Zhf,Zgs,Zg9]
          refine Zgt 1 [22] rfl Gi (y.out _ J) ?_
          (refine tkA ?_;try simp only[Qa,Zhf,Zgs,Zg9,Gr,Gq,Gp])
          refine tk0 ?_;have n7:=a6.out.below J;obtain⟨Z9,d3⟩:=Gz (Zgh F2 ri.g j zn zA zk zc zm zB zj zd);have a8:=d3;unfold Zgh at a8;have v8:Hid (Kept (λg=>g ∈ L.map RF.g) Zbb Z9):=Za (by rw[<- d3];exact Zqa (c6.out.below J) (.inl G4.out))
          have w3:Hid (MatB 35 41 Z9 go (L2.set i ⟨ri.g,ri.c,q3.set j ((Zde L1 i)[j]?.getD 0-by_*(Zde L1 p)[j]?.getD 0)⟩)):=Za (by
           have h1:=n7.set_ (i:=i) (r:=⟨ri.g,ri.c,q3⟩) (by rw[Qg,Gx rfl,Gx (by rw[b2.out];exact u)]) (k:=j) (by rw[show RF.q ⟨ri.g,ri.c,q3⟩=q3 from rfl,h7.out];exact m9) hz;rw[List.set_set]at h1;rw[<- d3];exact h1)
          have f0:=Zl J υ0 v0;have f1:=Zl J υ1 v1;have f2:=Zl J υ2 v2;have f3:=Zl J υ3 v3;have g0:=Zb J υ0;have g1:=Zb J υ1;have g2:=Zb J υ2;have g3:=Zb J υ3;clear n7 d3;refine Zu (i:=23) rfl Gi Gi (λK hK=>?_);go_simp;(try rw[a8]);refine hK.out _ _ ?_;clear hK K
          try simp only[Qa,Zhf,Zgs,Zg9]
          refine wpAnyL_fin ?_;clear a8 f0 f1 f2 f3 g0 g1 g2 g3 J I y hxs T υ0 υ1 υ2 υ3 x0 x1 x2 x3 v0 v1 v2 v3 q0 q1 q2 D1 hz hy i6 a6 c6 c0 l0 z0 z1;go_wp2_with fail
          go_roundg (n-j)
          case measure=>omega
          case rel=>exact⟨j+1,_,by omega,by go_num,by omega,w3.out,Za (by rw[Qw];exact h7.out),Za (Z1k (by rw[h7.out,a5.out i u]) F8 (by rw[a5.out i u];exact m9) rfl v4.out),v8.out⟩
theorem Zjt{A:Nat->Nat->Rat}{n c:Nat}(h:∀ i,i<n->A i c=0):∀ t i,t<=n->i<n->Zr A t i c=0
 | 0,i,_,hi=>h i hi
 | t+1,i,ht,hi=>by
  show (if t<i then _ else _)=_;rw[Zjt h t i Gk hi,Zjt h t t Gk Gk]
  split
  ·grind
  rfl
theorem SmN.zeroC(a b:Nat):SmN (a+1) (b+1) 0:=⟨by have:=Zbt (a+1);show (0:Rat).num.natAbs<_;exact this,by
 show (1:Nat)<pw (b+1);rw[Zaz];have:=Zbt b;omega⟩
section
variable{Q:List (List Rat)}{n:Nat}
theorem Zt5(hm:∀ i,i<n->(Q[i]?.getD []).length=n){t i k:Nat}(ht:t<=n)(hi:i<n):Zr (Zh (Zco Q (Qe n 0) n)) t i k=if k<n then Zr (Zh Q) t i k else 0:=by
 by_cases hk:k<n
 ·rw[Gx hk]
  exact Zcr (n:=n) (m:=n) (λi k hi hk=>Z0d hm hi hk) (Qb _) t i k ht hi hk
 rw[Gw hk];refine Zjt (n:=n) (λi hi=>?_) t i ht hi;rcases Qh n k with h|h;exact Zwl hm hi h;obtain rfl:n=k:=Gk;rw[Zvr hm hi];simp[List.getElem?_replicate,hi]
theorem Zqn(hm:∀ i,i<n->(Q[i]?.getD []).length=n){i:Nat}(hi:i<n):dQ (Zh (Zco Q (Qe n 0) n)) i=dQ (Zh Q) i:=by
 unfold dQ;rw[Zt5 hm Gk hi,Gx hi]
theorem Ziv(hm:∀ i,i<n->(Q[i]?.getD []).length=n){t:Nat}(ht:t<=n):posP (Zh (Zco Q (Qe n 0) n)) t ↔ posP (Zh Q) t:=
 ⟨λh s hs=>by rw[<- Zqn hm Gk];exact h s hs,λh s hs=>by rw[Zqn hm Gk];exact h s hs⟩
theorem wide0_l(hm:∀ i,i<n->(Q[i]?.getD []).length=n){i k:Nat}(hi:i<n)(hk:k<n):lQ (Zh (Zco Q (Qe n 0) n)) i k=lQ (Zh Q) i k:=by
 unfold lQ;rw[Zqn hm hk,Zt5 hm Gk hi,Gx hk]
theorem Ztt(hm:∀ i,i<n->(Q[i]?.getD []).length=n):SolvC (λi j=>Zr (Zh (Zco Q (Qe n 0) n)) i i j) (λ_ _=>0) n:=by
 have hz:∀ (E:Nat->Nat->Rat) i t,upS E (λ_ _=>0) i n t=E i n:=λE i t=>by
  unfold upS
  have:Z0 t (λj=>if i<j then E i j*0 else 0)=0:=by
   induction t with
   | zero=>rfl
   | succ t ih=>simp only[Z0];rw[ih];split <;> grind
  rw[this];grind
 have hE:∀ i,Zr (Zh (Zco Q (Qe n 0) n)) i i n=0 \/ n<=i:=λi=>by
  rcases Qh i n with h|h;left;rw[Zt5 hm Gk h,Gw Gk];exact .inr h
 refine⟨λi hi=>?_,λi=>SmN.zeroC 299 299,λi t=>?_⟩
 ·rw[hz]
  show (0:Rat)=Zr _ i i n/_;rcases hE i with h|h;rw[h];grind;omega
 rw[hz];show SmN 400 400 (Zr _ i i n);rcases hE i with h|h;rw[h];exact SmN.zeroC 399 399;have h0:∀ t,Zr (Zh (Zco Q (Qe n 0) n)) t i n=0 \/ True:=λ_=>.inr trivial
 have h1:∀ t j,n<=j->Zr (Zh (Zco Q (Qe n 0) n)) t j n=0:=λt=>by
  induction t with
  | zero =>
   intro j hj;show Zh _ j n=0;unfold Zh;rw[Qd (l:=Zco Q _ n) (by rw[Zlm];exact hj)];rfl
  | succ t ih =>
   intro j hj;show (if t<j then _ else _)=_
   have h2:Zr (Zh (Zco Q (Qe n 0) n)) t t n=0:=by
    rcases Qh t n with h3|h3;rw[Zt5 hm Gk h3,Gw Gk];exact ih t h3
   rw[ih j hj,h2]
   split
   ·grind
   rfl
 rw[h1 i i h];exact SmN.zeroC 399 399
end
theorem Zs2(n:Nat)(w:World)(hn9:n<=100) :
    Calls Tryz.prog 58 #[.int .i64 n] w λe w'=>∃ v,e=.returned v/\Below w.heap.size w w'/\OwnF 41 w' w.heap.size v (Qe n 0):=by
 obtain⟨iF,hi,U,a0,a1⟩:=info_parts Zd6;go_in;go_wp2_with fail
 go_loopg [3,4] n (λk ov iv wr=>∃ i:Nat,i+k=n/\iv=.int .i64 i/\Below w.heap.size w wr/\OwnF 41 wr w.heap.size ov (Qe i 0))
 case atStart=>exact⟨0,by omega,rfl,Qc _ _,OwnF.nil _ _ _⟩
 case round =>
  obtain⟨i,a5,rfl,hB,hO⟩:=hrel;cases gk with
  | zero =>
   obtain rfl:n=i:=Gk;have t1:decide ((n:Int)<(n:Int))=false:=Gh;replace hO:=Za hO;go_wp2_with fail;go_ret;exact⟨_,rfl,hB,hO.out⟩
  | succ k' =>
   obtain rfl:k'=n-(i+1):=Gk;have a6:i<n:=Gk;have t1:decide ((i:Int)<(n:Int))=true:=Gv Gk;obtain⟨zA,zc,rfl,f⟩:=hO.fl;have C:(Qe i (0:Rat)).length=i:=Gh;rw[C]at f ⊢;replace hO:=Za hO;replace f:=Za f;go_wp2_with fail;refine(Zyr 0 wr Gj Gj).mono ?_;rintro e w1 ⟨y,xn,xA,xk,xc,xm,xB,xj,xd,rfl,hf⟩;obtain⟨Y1,h⟩:=Gz (w1.alloc (.cells #[.bool xn,.slice xA xk xc,.bool xm,.slice xB xj xd] 41));have u:Below w1.heap.size w1 Y1:=by rw[<- h];exact(Qc _ _).alloc (Qb _) _
   have T:Blk Y1 w1.heap.size 41 #[.bool xn,.slice xA xk xc,.bool xm,.slice xB xj xd]:=by rw[<- h];exact Qo _ _ _
   have V:Fr Y1 xn xA xk xc xm xB xj xd 0:=hf.below u;have o:=(hO.out.kept y).kept u;have O:=hB.trans ((Gs y u).mono hB.size);have I:=O.size;rw[C]at o;go_wp2_with ((try rw[h]);at_builtin;refine Zcu _ rfl (.tmp 10) (.tmp 12) 35 rfl w.heap.size 41 iF Tryz.underlying35 hi U a0 a1 _ _ rfl o _ (some ⟨w1.heap.size,0,none⟩) 1 1 [⟨xn,xA,xk,xc,xm,xB,xj,xd,0⟩] rfl (Zb9 _ T) rfl (by intro e he;rw[Qv]at he;subst he;exact V) Gg I ?_;intro v2 w5 J a3 a4);have a2:=O.grown a3 I (λk hk=>o.row_ge k hk);simp only[Qp,Qs]at J
   go_roundg (n-(i+1))
   case measure=>omega
   case rel=>exact⟨i+1,by omega,by go_num,a2,by rw[List.replicate_succ'];exact J⟩
theorem IH{G:Prop}(h:G:=by
 go_wp2_with fail;go_ret;exact⟨rfl,dg.trans ((Gs ao eZ).mono dg.size)⟩):G:=h
theorem Zrg(A:Option Addr)(n c:Nat)(rs:List RX)(w:World)(h:MXL w A n c rs)(hF:FacC rs)(E:Int)(hE:Zat rs=E) :
    Calls Tryz.prog 16 #[.slice A n c] w λe w'=>e=.returned (.int .i64 E)/\Below w.heap.size w w':=by
 have hmx:=Gt;have hl:=Za h.1;have c5:=h.2.1;have b6:=h.2.2.1;unfold maxLen at b6;replace hE:=Za hE;by_cases h6:6<n
 ·have t1:decide ((6:Int)<(n:Int))=true:=Gv Gk
  obtain rfl:E=4:=by rw[<- hE.out];exact Zf2 (by unfold long6;rw[hl.out,Gv h6];rfl)
  clear h;go_in;exact Fo
 have t1:decide ((6:Int)<(n:Int))=false:=Gu Gk;have hH:=Za h;clear h;go_in;go_wp2_with fail
 go_loopg [3] n (λt iv wr=>∃ i:Nat,i+t=n/\iv=.int .i64 i/\Hid (∀ j r,j<i->rs[j]?=some r->r.long6=false)/\Below w.heap.size w wr)
 case atStart=>exact⟨0,by omega,rfl,Za (λj r hj=>by omega),Qc _ _⟩
 case round =>
  obtain⟨w1,rfl⟩:=Gy wr;obtain⟨i,b8,rfl,C,T⟩:=hrel;cases gk with
  | succ t =>
   obtain rfl:t=n-(i+1):=Gk;have a7:i<n:=Gk;have t2:decide ((i:Int)<(n:Int))=true:=Gv Gk;have bi:(i:Int)<(n:Int):=Gk;obtain⟨g,o,r,rfl,he,c0,hL⟩:=(hH.out.below T).at_ a7;have U:=hL.nlenC;unfold maxLen at U;clear hL;by_cases hx:6<r.n
   ·have t3:decide ((6:Int)<(r.n:Int))=true:=Gv Gk
    obtain rfl:E=4:=by
     rw[<- hE.out];refine Zf2 ?_;unfold long6;have:rs.any RX.long6=true:=List.any_eq_true.2 ⟨r,Ql he,by unfold RX.long6;exact Gv hx⟩;rw[this,Bool.or_true]
    replace he:=Za he;replace hx:=Za hx;go_wp2_with fail;go_ret;exact⟨rfl,T⟩
   have t3:decide ((6:Int)<(r.n:Int))=false:=Gu Gk
   have ar:Hid (∀ j r',j<i+1->rs[j]?=some r'->r'.long6=false):=Za (λj r' hj he'=>by
    rcases Qh j i with h'|h';exact C.out j r' h' he';obtain rfl:j=i:=Gk;rw[he]at he';cases he';unfold RX.long6;exact Gu hx)
   replace he:=Za he;replace hx:=Za hx;go_wp2_with fail
   go_roundg (n-(i+1))
   case measure=>omega
   case rel=>exact⟨i+1,by omega,by go_num,ar,T⟩
  | zero =>
   obtain rfl:n=i:=Gk;have t2:decide ((n:Int)<(n:Int))=false:=Gh
   have a6:Hid (long6 rs=false):=Za (by
    unfold long6;rw[hl.out,Gu h6,Bool.false_or,List.any_eq_false];intro r hr;obtain⟨j,hj,e⟩:=Qt hr;have:=C.out j r (by rw[hl.out]at hj;exact hj) (by rw[Qf hj,e]);rw[this];decide)
   by_cases u:n=0
   ·have t3:((n:Int) == 0)=true:=by simp[u]
    have b3:decide (n=0)=true:=by simpa using u
    obtain rfl:E=8:=by rw[<- hE.out];exact Zsr a6.out (by rw[hl.out];exact u)
    replace u:=Za u;go_wp2_with fail;go_ret;exact⟨rfl,T⟩
   have t3:((n:Int) == 0)=false:=by simp;omega
   have b3:decide (n=0)=false:=by simpa using u
   replace u:=Za u;replace h6:=Za h6;go_wp2_with fail
   go_loopg [4] n (λt iv wr=>∃ i:Nat,i+t=n/\iv=.int .i64 i/\Hid (∀ j r,j<i->rs[j]?=some r->Zc6 rs.length r=true)/\Below w.heap.size w wr)
   case atStart=>exact⟨0,by omega,rfl,Za (λj r hj=>by omega),T⟩
   case round =>
    clear T C;obtain⟨wi,rfl⟩:=Gy wr;obtain⟨i,b8,rfl,C,aW⟩:=hrel;cases gk with
    | succ t =>
     obtain rfl:t=n-(i+1):=Gk;have a7:i<n:=Gk;have t4:decide ((i:Int)<(n:Int))=true:=Gv Gk;have bi:(i:Int)<(n:Int):=Gk;obtain⟨g,o,r,rfl,he,c0,hL⟩:=(hH.out.below aW).at_ a7;have U:=hL.nlenC;unfold maxLen at U;have bad:Hid (Zc6 rs.length r=false->Zat rs=8):=Za (λhf=>Zr9 a6.out (by rw[hl.out];exact u.out) (Ql he) hf)
     have good:Hid (Zc6 rs.length r=true->∀ j r',j<i+1->rs[j]?=some r'->Zc6 rs.length r'=true):=Za (λhf j r' hj he'=>by
      rcases Qh j i with h'|h';exact C.out j r' h' he';obtain rfl:j=i:=Gk;rw[he]at he';cases he';exact hf)
     replace he:=Za he;by_cases hq:r.n=n
     case neg =>
      have t5:((r.n:Int) == (n:Int))=false:=beq_eq_false_iff_ne.2 Gk;have b4:((r.n:Int) != (n:Int))=true:=by rw[bne,t5];rfl
      have b1:decide (r.n=n)=false:=by simpa using hq
      obtain rfl:E=8:=by rw[<- hE.out];exact bad.out (by unfold Zc6;rw[hl.out,Gu hq];rfl)
      replace hq:=Za hq;clear hL;go_wp2_with fail;go_ret;exact⟨rfl,aW⟩
     have t5:((r.n:Int) == (n:Int))=true:=beq_iff_eq.2 Gk;have b4:((r.n:Int) != (n:Int))=false:=by rw[bne,t5];rfl
     have b1:decide (r.n=n)=true:=by simpa using hq
     obtain⟨y,hy⟩:=Gz (Zcz r.es);have hV:=Za (λW1 (hb:Below wi.heap.size wi W1)=>Zo4 r.A r.n r.c r.es W1 (hL.below hb) y hy);have b7:=Za hq;replace hq:=Za hq;clear hL;cases y
     ·obtain rfl:E=8:=by rw[<- hE.out];exact bad.out (by unfold Zc6;rw[hy];simp)
      clear hy;go_wp2_with fail;refine(hV.out _ (by first|exact Qc _ _|exact Zf (Qc _ _) _)).mono ?_;rintro e' w2 ⟨rfl,aa⟩;go_wp2_with fail;go_ret;exact⟨rfl,Gs aW aa⟩
     have ar:=Za (good.out (by unfold Zc6;rw[hy,hl.out,b7.out,Gv rfl];rfl));clear hy;go_wp2_with fail;refine(hV.out _ (by first|exact Qc _ _|exact Zf (Qc _ _) _)).mono ?_;rintro e' w2 ⟨rfl,aa⟩;exact Ip
    | zero =>
     obtain rfl:n=i:=Gk;have t4:decide ((n:Int)<(n:Int))=false:=Gh
     have hV:Hid (covV rs):=Za ⟨a6.out,by rw[hl.out];exact u.out,by
      rw[List.all_eq_true];intro r hr;obtain⟨j,hj,e⟩:=Qt hr;exact C.out j r (by rw[hl.out]at hj;exact hj) (by rw[Qf hj,e])⟩
     have hM:=Za (hV.out.good (hH.out.below aW));have c6:Hid (∀ a b,Sm (Zh (qM rs) a b)):=Za (λa b=>(hV.out.small64 hH.out).smC Gj a b);have f:Hid (∀ a,a<n->((qM rs)[a]?.getD []).length=n):=Za (λa ha=>hV.out.row hH.out a ha);go_wp2_with fail
     go_loopg [5] n (λt jv wr=>∃ j:Nat,j+t=n/\jv=.int .i64 j/\Hid (∀ a b,a<j->b<a->Zh (qM rs) a b=Zh (qM rs) b a)/\Below wi.heap.size wi wr)
     case atStart=>exact⟨0,by omega,rfl,Za (λa b ha=>by omega),Qc _ _⟩
     case round =>
      obtain⟨wj,rfl⟩:=Gy wr;obtain⟨j,c4,rfl,a9,O⟩:=hrel;have dg:=Gs aW O;cases gk with
      | zero =>
       obtain rfl:n=j:=Gk;have t5:decide ((n:Int)<(n:Int))=false:=Gh
       have hs:Hid (Zhm (qM rs)=true):=Za (by
        unfold Zhm;rw[decide_eq_true_eq];intro a ha b hb;rw[show (qM rs).length=n by unfold qM;rw[Qi,hl.out]]at ha;exact a9.out a b ha hb)
       have b0:Hid (FacP (Zh (qM rs)) n):=Za (by have:=hF hV.out hs.out;rw[hl.out]at this;exact this);go_wp2_with fail;refine(Zs2 n wj (by have:=h6.out;omega)).mono ?_;rintro e w5 ⟨v,rfl,ao,hO⟩;obtain⟨zA,zc,rfl,hz⟩:=hO.fl;have U:(Qe n (0:Rat)).length=n:=Gh;rw[U]at hz ⊢;replace hz:=Za hz;clear hO;go_wp2_with fail;refine(Zrk A n c (qM rs) zA zc _ w5 (hM.out.below (Gs O ao)) hz.out (by have:=u.out;omega) (by have:=h6.out;omega) f.out (λt i k ht hp hi=>?_) (λi k hk hi hp=>?_) (λ_ _=>0) (λ_=>Ztt f.out)).mono ?_
       ·rw[Zt5 f.out ht hi]
        split
        rename_i h1;exact b0.out.s t i k ht ((Ziv f.out ht).1 hp) hi h1;exact SmN.zeroC 379 379
       ·rw[wide0_l f.out hi Gk]
        exact b0.out.l i k hk hi ((Ziv f.out Gk).1 hp)
       rintro e w6 ⟨eZ,⟨hp,B,c',rfl,-⟩|⟨hp,rfl⟩⟩
       ·obtain rfl:E=0:=by rw[<- hE.out];exact hV.out.pos hs.out (by rw[hl.out];exact(Ziv f.out (Qb _)).1 hp)
        exact IH
       obtain rfl:E=8:=by rw[<- hE.out];exact hV.out.neg hs.out (by rw[hl.out];exact λh=>hp ((Ziv f.out (Qb _)).2 h))
       exact IH
      | succ t =>
       obtain rfl:t=n-(j+1):=Gk;have a2:j<n:=Gk;have t5:decide ((j:Int)<(n:Int))=true:=Gv Gk;have bj:(j:Int)<(n:Int):=Gk;go_wp2_with fail
       go_loopg [6] j (λt kv wr=>∃ k:Nat,k+t=j/\kv=.int .i64 k/\Hid (∀ b,b<k->Zh (qM rs) j b=Zh (qM rs) b j)/\Below wj.heap.size wj wr)
       case atStart=>exact⟨0,by omega,rfl,Za (λb hb=>by omega),Qc _ _⟩
       case round =>
        obtain⟨wk,rfl⟩:=Gy wr;obtain⟨k,c1,rfl,a8,V⟩:=hrel;cases gk with
        | zero =>
         obtain rfl:j=k:=Gk;have t6:decide ((j:Int)<(j:Int))=false:=Gh
         have b2:Hid (∀ a b,a<j+1->b<a->Zh (qM rs) a b=Zh (qM rs) b a):=Za (λa b ha hb=>by
          rcases Qh a j with h'|h';exact a9.out a b h' hb;obtain rfl:a=j:=Gk;exact a8.out b hb)
         go_wp2_with fail
         go_roundg (n-(j+1))
         case measure=>omega
         case rel=>exact⟨j+1,by omega,by go_num,b2,Gs O V⟩
        | succ t' =>
         obtain rfl:t'=j-(k+1):=Gk;have c3:k<j:=Gk;have t6:decide ((k:Int)<(j:Int))=true:=Gv Gk;have bk:(k:Int)<(j:Int):=Gk;have bki:(k:Int)<(n:Int):=Gk;have a4:=Gs O V;obtain⟨g,o,A',n',c',rfl,c0,hR⟩:=(hM.out.below a4).at_ a2;have b5:n=n':=by rw[<- hR.len];exact(f.out j a2).symm
         subst b5;have a5:=hR.cap;unfold maxLen at a5;obtain⟨ga,oa,xn,xA,xk,xc,xm,xB,xj,xd,rfl,⟨r0,r1,r2,r3⟩,hX⟩:=hR.at_ (show k<n by omega);obtain⟨A2,n2,c2,ck,a0⟩:=(hM.out.below a4).atS (show k<n by omega);have b9:n=n2:=by rw[<- a0.len];exact(f.out k Gk).symm
         subst b9;have Y:=a0.cap;unfold maxLen at Y;obtain⟨gb,ob,yn,yA,yk,yc,ym,yB,yj,yd,rfl,⟨s0,s1,s2,s3⟩,hY⟩:=a0.at_ a2;have eX:((qM rs)[j]?.getD [])[k]?.getD 0=Zh (qM rs) j k:=rfl;have eY:((qM rs)[k]?.getD [])[j]?.getD 0=Zh (qM rs) k j:=rfl;rw[eX]at hX;rw[eY]at hY;replace hX:=Za hX;replace hY:=Za hY;clear eX eY a0 hR;go_wp2_with fail;obtain⟨X0,a3⟩:=Gz wk.drew;have J:Below wk.heap.size wk X0:=by rw[<- a3];exact Zf (Qc _ _) 1
         have I:Hid (∀ wx,Below wk.heap.size wk wx->wx.cell? ⟨g,o+j,none⟩=some (.slice (some ⟨ga,oa,none⟩) n c')/\wx.cell? ⟨ga,oa+k*4,none⟩=some (.bool xn)/\wx.cell? ⟨ga,oa+k*4+1,none⟩=some (.slice xA xk xc)/\wx.cell? ⟨ga,oa+k*4+2,none⟩=some (.bool xm)/\wx.cell? ⟨ga,oa+k*4+3,none⟩=some (.slice xB xj xd)/\wx.cell? ⟨g,o+k,none⟩=some (.slice (some ⟨gb,ob,none⟩) n c2)/\wx.cell? ⟨gb,ob+j*4,none⟩=some (.bool yn)/\wx.cell? ⟨gb,ob+j*4+1,none⟩=some (.slice yA yk yc)/\wx.cell? ⟨gb,ob+j*4+2,none⟩=some (.bool ym)/\wx.cell? ⟨gb,ob+j*4+3,none⟩=some (.slice yB yj yd)):=Za (λwx hbx=>⟨Zb hbx c0,Zb hbx r0,Zb hbx r1,Zb hbx r2,Zb hbx r3,Zb hbx ck,Zb hbx s0,Zb hbx s1,Zb hbx s2,Zb hbx s3⟩);refine wp_heldS [] hmx I (by rw[a3];exact J) (λhxs=>?_);rw[a3];refine Zke 14 [0,1,2,3,4,5,6,7,8,9,10,11,12,13] rfl Gi (I.out _ J) ?_
         iterate 14 (refine tkA ?_;try simp only[Qa,Zhf,Zgs,Zg9,Gr,Gq,Gp])
         refine tk0 ?_;obtain⟨z,hz⟩:∃ z,decide (Zh (qM rs) j k=Zh (qM rs) k j)=z:=⟨_,rfl⟩;refine wpAnyL_o 14 λK hK=>?_;go_simp;refine(Zv9 xn xm yn ym xA xB yA yB xk xc xj xd yk yc yj yd _ _ X0 (hX.out.below J) (hY.out.below J) z hz).mono ?_;rintro e w5 ⟨rfl,ao⟩;have a1:=Gs J ao;refine hK.out _ _ (λ_=>I.out _ a1) ?_;clear hK K
         try simp only[Qa,Zhf,Zgs,Zg9]
         refine Zgt 1 [15] rfl Gi (I.out _ a1) ?_
         (refine tkA ?_;try simp only[Qa,Zhf,Zgs,Zg9,Gr,Gq,Gp])
         refine tk0 ?_;refine wpAnyL_fin ?_;have aG:Hid (Below wj.heap.size wj w5):=Za (Gs V a1);clear I hxs J a1 ao a3 r0 r1 r2 r3 s0 s1 s2 s3 ck c0 hX hY;cases z
         ·obtain rfl:E=8:=by
            rw[<- hE.out];refine hV.out.asym ?_;cases hb:Zhm (qM rs)with
            | false=>rfl
            | true=>exact absurd (symB_iff.1 hb j k (by unfold qM;rw[Qi,hl.out];exact a2) (by unfold qM;rw[Qi,hl.out];omega)) (of_decide_eq_false hz)
          replace hz:=Za hz;go_wp2_with fail;go_ret;exact⟨rfl,Gs dg aG.out⟩
         have eM:Hid (∀ b,b<k+1->Zh (qM rs) j b=Zh (qM rs) b j):=Za (λb hb=>by
           rcases Qh b k with h'|h';exact a8.out b h';obtain rfl:b=k:=Gk;exact of_decide_eq_true hz)
         replace hz:=Za hz;exact IR
theorem Zmj(L:Option Addr)(k cap:Nat)(qs:List Rat)(w:World)(hl:FL w L k cap qs)(hk:k<=100)(hs:∀ j,j<k->Sm (Zuq qs j))(he:∀ j:Nat,j<k->Sm (qs[j]?.getD 0)) :
    Calls Tryz.prog 70 #[.slice L k cap] w (Zdl w (Zuq qs k)):=by
 have a4:=hl.cap;unfold maxLen at a4;obtain⟨W0,a6,a1,q1,s0⟩:=Zam w 73 #[.bool false,.slice none 0 0,.bool false,.slice none 0 0];obtain⟨gR,J⟩:=Gz w.heap.size;rw[J]at q1 s0 a1;have b6:=Za hl;have b9:=Za hs;have c6:=Za he;clear hl hs he;go_in;go_wp2_with fail;(try rw[a6]);(try rw[J]);refine(Zjo 0 W0 Gj Gj).mono ?_;rintro e w1 ⟨C,pn,pA,pk,pc,pm,pB,pj,pd,rfl,hf⟩;replace q1:=Zc C q1;obtain⟨V1,c4,a2,t0,tz⟩:=Zam w1 73 #[.bool false,.slice none 0 0,.bool false,.slice none 0 0];obtain⟨g0,U⟩:=Gz w1.heap.size;rw[U]at t0 tz;obtain⟨υ0,υ1,υ2,υ3,v0,v1,v2,v3⟩:=t0.four;obtain⟨V2,a7,p2,a9,s2⟩:=Zau pn pA pk pc pm pB pj pd t0;have I:Below w1.heap.size w1 V2:=a2.trans (a9.to_below (λk e=>by omega) a2.size);have hA:=Za (hf.below I);have b4:=Zc I q1;have b0:Hid (Below gR w w1):=Za (a1.trans (C.mono Gk));have b3:Hid (V2.heap.size=g0+1/\gR<g0):=Za ⟨by rw[s2,tz],by have:=C.size;omega⟩;have a8:Hid (Below gR w V2):=Za (b0.out.trans (I.mono (by have:=C.size;omega)));have T:=Za J;clear hf a2 a9 s2 tz I q1 C a1 s0 a6;go_wp2_with fail;(try rw[U]);(try rw[a7]);clear υ0 υ1 υ2 υ3 v0 v1 v2 v3 t0 c4 a7 U J
 go_loopg [9] k (λt iv wr=>∃ (i:Nat) (xn:Bool) (xA:Option Addr) (xk xc:Nat) (xm:Bool) (xB:Option Addr) (xj xd:Nat),i+t=k/\iv=.int .i64 i/\Blk wr g0 73 #[.bool xn,.slice xA xk xc,.bool xm,.slice xB xj xd]/\Hid (Fr wr xn xA xk xc xm xB xj xd (Zuq qs i))/\Kept (λk=>k=g0) V2 wr)
 case atStart=>exact⟨0,_,_,_,_,_,_,_,_,by omega,rfl,p2,hA,Qn _ _⟩
 case round =>
  obtain⟨i,xn,xA,xk,xc,xm,xB,xj,xd,e5,rfl,Y,hX,hK⟩:=hrel;have c8:=b3.out;have V:=hK.blk b4 Gk;have cE:Below gR w wr:=a8.out.trans (hK.to_below (λk hk=>by omega) Gk);obtain⟨x0,x1,x2,x3,y0,y1,y2,y3⟩:=Y.four;cases gk with
  | zero =>
   obtain rfl:i=k:=Gk;have t1:decide ((i:Int)<(i:Int))=false:=Gh;obtain⟨c0,c1,c2,c3,z0,z1,z2,z3⟩:=V.four;obtain⟨W5,a0,q5,aQ,s5⟩:=Zau xn xA xk xc xm xB xj xd V;go_wp2_with fail;(try rw[a0]);obtain⟨r0,r1,r2,r3,-⟩:=q5.four;refine bodyPost_ret (v:=.agg #[.bool xn,.slice xA xk xc,.bool xm,.slice xB xj xd]) (by simp[results,Tryz.results70,go_sem,r0,r1,r2,r3]) rfl ?_;refine⟨?_,_,_,_,_,_,_,_,_,rfl,hX.out.keptN aQ V (Za6 _ _ _ _ _ _ _ _)⟩;rw[T.out];exact Cz
  | succ t =>
   obtain rfl:t=k-(i+1):=Gk;have a3:i<k:=Gk;have t1:decide ((i:Int)<(k:Int))=true:=Gv Gk;have bi:(i:Int)<(k:Int):=Gk;obtain⟨gl,o,yn,yA,yk,yc,ym,yB,yj,yd,rfl,⟨c0,c1,c2,c3⟩,hY⟩:=(b6.out.below (T.out▸cE)).at_ a3;obtain⟨W1,d7,f,p1,s1⟩:=Zam wr 73 #[.bool false,.slice none 0 0,.bool false,.slice none 0 0];obtain⟨gn,b5⟩:=Gz wr.heap.size;rw[b5]at p1 s1;have c7:=Zc f Y;obtain⟨υ0,υ1,υ2,υ3,v0,v1,v2,v3⟩:=p1.four;obtain⟨W2,b8,b2,a5,c9⟩:=Zau yn yA yk yc ym yB yj yd p1;have h:Below wr.heap.size wr W2:=f.trans (a5.to_below (λk e=>by omega) f.size);have b7:=hX.out.below h;have c5:=hY.below h;have O:=Zc h Y;obtain⟨m0,m1,m2,m3,n0,n1,n2,n3⟩:=O.four;obtain⟨o0,o1,o2,o3,-⟩:=b2.four;have e0:=Zb f c0;have e1:=Zb f c1;have e2:=Zb f c2;have e3:=Zb f c3;go_wp2_with fail;(try rw[b8]);go_wp2_with fail;refine(fAdd_ok xn xm yn ym xA xB yA yB xk xc xj xd yk yc yj yd _ _ W2 b7 c5 (b9.out i a3) (c6.out i a3)).mono ?_;rintro e w3 ⟨u,rn,rA,rk,rc,rm,rB,rj,rd,rfl,hf⟩;go_wp2_with fail;refine(Zga rn rm rA rB rk rc rj rd _ w3 hf).mono ?_;rintro e w4 ⟨b1,sn,sA,sk,sc,sm,sB,sj,sd,rfl,hr⟩;have y:=Zc b1 (Zc u O);obtain⟨d0,d8,d5,e4,d6,d3,d4,d9⟩:=y.four;obtain⟨W5,a0,q5,aQ,s5⟩:=Zau sn sA sk sc sm sB sj sd y;clear x0 x1 x2 x3 y0 y1 y2 y3 m0 m1 m2 m3 n0 n1 n2 n3 o0 o1 o2 o3 υ0 υ1 υ2 υ3 v0 v1 v2 v3 e0 e1 e2 e3 c0 c1 c2 c3;go_wp2_with fail;(try rw[a0]);have ip:=Za (hr.keptN aQ y (Za6 _ _ _ _ _ _ _ _));have ir:Kept (λk=>k=g0) V2 W5:=((hK.below h).below (Gs u b1)).trans aQ;exact IP
def zV(A:Nat->Nat->Rat)(n:Nat)(x:Nat->Rat)(s:Nat):Rat:=Zr (brd A x n) s s n
def bil(A:Nat->Nat->Rat)(n:Nat)(x y:Nat->Rat):Rat:=Z0 n (λs=>zV A n x s*zV A n y s/dQ A s)
section
variable{A:Nat->Nat->Rat}{n:Nat}
theorem Z05(x y:Nat->Rat):bil A n x y=bil A n y x:=by
 unfold bil;exact Zw λs _=>by rw[Rat.mul_comm]
theorem Zp0{x y z:Nat->Rat}(h:∀ i,i<n->x i=y i):bil A n x z=bil A n y z:=by
 unfold bil;refine Zw λs hs=>?_
 have h1:zV A n x s=zV A n y s:=by
  unfold zV
  exact Zcr (n:=n) (m:=n+1) (λi k hi hk=>by
   unfold brd;rw[Gx hi,Gx hi]
   split
   rfl;exact h i hi) Gk s s n Gk hs Gk
 rw[h1]
end
theorem Zan{w:World}(t:TypeId)(cs:Array Value):∃ W,w.alloc (.cells cs t)=W/\Blk W w.heap.size t cs/\Below w.heap.size w W:=
 ⟨_,rfl,Qo _ _ _,(Qc _ _).alloc (Qb _) _⟩
structure Ztm (A:Nat->Nat->Rat) (n:Nat) (x:Nat->Rat):Prop where
 a:∀ t i,t<=i->i<n->Sm (Zr (brd A x n) t i n)
 l:∀ i t,t<i->i<n->Sm (lQ A i t)
 ly:∀ i t,t<i->i<n->Sm (lQ A i t*Zr (brd A x n) t t n)
 zz:∀ i,i<n->Sm (zV A n x i*zV A n x i)
 d:∀ i,i<n->Sm (dQ A i)
 q:∀ i,i<n->Sm (zV A n x i*zV A n x i/dQ A i)
 s:∀ i,i<=n->Sm (Z0 i (λs=>zV A n x s*zV A n x s/dQ A s))
def zL(A:Nat->Nat->Rat)(n:Nat)(x:Nat->Rat)(i:Nat):List Rat:=(Qk i).map (zV A n x)
section
variable{A:Nat->Nat->Rat}{n i k:Nat}{x:Nat->Rat}
theorem Zu7:(zL A n x i).length=i:=by simp[zL]
theorem zL_at(h:k<i):(zL A n x i)[k]?.getD 0=zV A n x k:=by simp[zL,h]
theorem zL_succ:zL A n x (i+1)=zL A n x i ++ [zV A n x i]:=by simp[zL,List.range_succ]
theorem Zpp(hki:k<i)(hi:i<n):Zr (brd A x n) (k+1) i n=Zr (brd A x n) k i n-lQ A i k*zV A n x k:=by
 rw[Zqd hki,brd_l x hi Gk];rfl
end
theorem sumF2(s q:Rat):Zuq [s,q] 2=s+q:=by
 show (0+s)+q=_
 grind
theorem Zeq{a b:Rat}(h:Sm a):∀ j,j<1->Sm (Zhk a [b] j):=λj hj=>by
 obtain rfl:j=0:=Gk;exact h
theorem Zfq{b:Rat}(h:Sm b):∀ j:Nat,j<1->Sm ([b][j]?.getD 0):=λj hj=>by
 obtain rfl:j=0:=Gk;exact h
theorem Zre{a b:Rat}(h:Sm a):∀ j,j<2->Sm (Zuq [a,b] j):=λj hj=>by
 rcases(show j=0 \/ j=1 by omega)with rfl|rfl;exact(SmN.int (i:=2) (n:=0) GY).sm Gj Gj
 have e:Zuq [a,b] 1=a:=by
   show 0+a=a
   grind
 rw[e];exact h
theorem Zuz{a b:Rat}(h:Sm a)(k:Sm b):∀ j:Nat,j<2->Sm ([a,b][j]?.getD 0):=λj hj=>by
 rcases(show j=0 \/ j=1 by omega)with rfl|rfl;exact h;exact k
theorem Zia(a b:Rat):Zhk a [b] 1=a*b:=rfl
theorem Z02(A1 A2 V:Option Addr)(n c1 c2 cv:Nat)(AQ:Nat->Nat->Rat)(xs:List Rat)(w:World)(hn6:n<=6)(hM:MFL w A1 n c1 (Zhh AQ n))(hD:FL w A2 n c2 (dsL AQ n))(hV:FL w V n cv xs)(hp:posP AQ n)(hS:Ztm AQ n (λi=>xs[i]?.getD 0)) :
    Calls Tryz.prog 66 #[.agg #[.slice A1 n c1,.slice A2 n c2],.slice V n cv] w (Zdl w (bil AQ n (λi=>xs[i]?.getD 0) (λi=>xs[i]?.getD 0))):=by
 obtain⟨iN,hi,υ2,υ8,t5⟩:=info_parts Zl8;have hmx:=Gt;have o0:=hV.cap;have υ4:=hM.2.1;have l5:=hM.2.2.1;have n4:=hD.cap;unfold maxLen at o0 l5 n4;obtain⟨X,m9⟩:∃ X:Nat->Rat,(λi:Nat=>xs[i]?.getD 0)=X:=⟨_,rfl⟩;have hxs:Hid (∀ i:Nat,xs[i]?.getD 0=X i):=Za (λi=>by rw[<- m9]);rw[m9]at hS ⊢;replace hS:=Za hS;replace hp:=Za hp;clear m9;obtain⟨W0,q1,h7,⟨qf,qr⟩,s0⟩:=Zef w 99 #[.slice A1 n c1,.slice A2 n c2] 73 #[.bool false,.slice none 0 0,.bool false,.slice none 0 0];obtain⟨gf,k5⟩:=Gz w.heap.size;replace hM:=Za (hM.below h7);replace hD:=Za (hD.below h7);replace hV:=Za (hV.below h7);rw[k5]at qf qr s0;replace h7:=Za h7;replace qf:=Za qf;replace qr:=Za qr;have v4:=Za s0;clear s0;go_in;go_wp2_with fail;(try rw[q1]);(try rw[k5]);clear q1;replace k5:=Za k5;refine(Zjo 0 W0 Gj Gj).mono ?_;rintro e w1 ⟨h8,sn,sA,sk,sc,sm,sB,sj,sd,rfl,sf⟩;replace hM:=Za (hM.out.below h8);replace hD:=Za (hD.out.below h8);replace hV:=Za (hV.out.below h8);replace qf:=Gm h8 qf;replace qr:=Gm h8 qr;have k9:=Gn h7 h8;clear h7 h8;replace sf:=Za sf;have r9:=hM;have υ7:=hD;have t8:=hV;have j5:=k9;have r6:=qf;have p0:=qr;clear hM hD hV;obtain⟨g3,g9⟩:=Gz w1.heap.size;obtain⟨V5,o3,q7,g0⟩:=Zan (w:=w1) 73 #[.bool sn,.slice sA sk sc,.bool sm,.slice sB sj sd];rw[g9]at q7;have l4:=Za g0;replace qf:=Gm g0 qf;replace qr:=Gm g0 qr
 replace sf:=Za (sf.out.below g0);have w4:=Gn k9 g0;clear k9 g0;replace q7:=Za q7;have o5:Hid (w1.heap.size+1=V5.heap.size):=Za (by rw[<- o3];simp);go_wp2_with fail;(try rw[g9]);(try rw[o3]);clear o3;replace g9:=Za g9;have s6:Hid (Z0 0 (λs=>zV AQ n X s*zV AQ n X s/dQ AQ s)=((0:Int):Rat)):=Za rfl;replace sf:Hid (Fr V5 sn sA sk sc sm sB sj sd (Z0 0 (λs=>zV AQ n X s*zV AQ n X s/dQ AQ s))):=Za (by rw[s6.out];exact sf.out)
 have o9:Hid (V5.heap.size=g3+1/\gf+1<g3):=Za ⟨by
  have h2:=g9.out;have h3:=o5.out;omega,by
  have h2:=g9.out;have h5:=p0.out.lt;omega⟩
 clear s6 qf qr
 go_loopg [6,7,8,9,10,11,15] n (λt yv v7 v8 v9 v10 v11 iv wr=>∃ (i:Nat) (sn:Bool) (sA:Option Addr) (sk sc:Nat) (sm:Bool) (sB:Option Addr) (sj sd:Nat),i+t=n/\iv=.int .i64 i/\Hid (OwnF 73 wr V5.heap.size yv (zL AQ n X i))/\Hid (Blk wr g3 73 #[.bool sn,.slice sA sk sc,.bool sm,.slice sB sj sd])/\Hid (Fr wr sn sA sk sc sm sB sj sd (Z0 i (λs=>zV AQ n X s*zV AQ n X s/dQ AQ s)))/\Hid (Kept (λk=>k=g3) V5 wr))
 case atStart=>exact⟨0,_,_,_,_,_,_,_,_,by omega,rfl,Za (OwnF.nil _ _ _),q7,sf,Za (Qn _ _)⟩
 case round =>
  obtain⟨wi,rfl⟩:=Gy wr;clear q7 sf;obtain⟨i,sn,sA,sk,sc,sm,sB,sj,sd,v5,rfl,hO,qs,hs,hK⟩:=hrel;have h4:Hid (Below w1.heap.size w1 wi):=Za (l4.out.trans (hK.out.to_below (λk e=>by rw[e];exact Nat.le_of_eq g9.out) l4.out.size));have w0:=h4.out.size;obtain⟨x4,w6⟩:=o9.out;have w2:=hK.out.size;have s2:w1.heap.size=g3:=g9.out;obtain⟨Ay,cy,ey,k4⟩:=hO.out.fl;rw[Zu7]at ey k4;subst ey;have υ3:=k4.cap;unfold maxLen at υ3;replace k4:=Za k4;replace s2:=Za s2;cases gk with
  | zero =>
   obtain rfl:i=n:=Gk;have t1:decide ((i:Int)<(i:Int))=false:=Gh;have qR:=Zc h4.out p0.out;obtain⟨c0,c1,c2,c3,z0,z1,z2,z3⟩:=qR.four;obtain⟨x0,x1,x2,x3,-⟩:=qs.out.four;obtain⟨W5,i2,q5,f8,s5⟩:=Zau sn sA sk sc sm sB sj sd qR;go_wp2_with fail;(try rw[i2]);obtain⟨r0,r1,r2,r3,-⟩:=q5.four;refine bodyPost_ret (v:=.agg #[.bool sn,.slice sA sk sc,.bool sm,.slice sB sj sd]) (by simp[results,Tryz.results66,go_sem,r0,r1,r2,r3]) rfl ?_;refine⟨?_,_,_,_,_,_,_,_,_,rfl,hs.out.keptN f8 qR (Za6 _ _ _ _ _ _ _ _)⟩;exact(Gs j5.out h4.out).trans (f8.to_below (λk e=>by have:=k5.out;omega) (by have:=j5.out.size;omega))
  | succ t' =>
   obtain rfl:t'=n-(i+1):=Gk;have d7:i<n:=Gk;have t1:decide ((i:Int)<(n:Int))=true:=Gv Gk;have bi:(i:Int)<(n:Int):=Gk;obtain⟨gv,ov,fn,fA,fk,fc,fm,fB,fj,fd,rfl,⟨f0,f1,f2,f3⟩,hf⟩:=(t8.out.below h4.out).at_ d7;rw[hxs.out]at hf;obtain⟨V8,k0,q8,g0⟩:=Zan (w:=wi) 41 #[.bool fn,.slice fA fk fc,.bool fm,.slice fB fj fd];obtain⟨V9,j8,q9,p7⟩:=Zan (w:=V8) 73 #[.bool fn,.slice fA fk fc,.bool fm,.slice fB fj fd];obtain⟨g8,k7⟩:=Gz wi.heap.size;have o2:V8.heap.size=g8+1:=by rw[<- k0,<- k7];simp
   have n2:V9.heap.size=g8+1+1:=by rw[<- j8,<- o2];simp
   rw[o2]at q9;have j0:Below wi.heap.size wi V9:=Gs g0 p7
   have p6:Hid (Fr V9 fn fA fk fc fm fB fj fd (Zr (brd AQ X n) 0 i n)):=Za (by
    have e:Zr (brd AQ X n) 0 i n=X i:=by
     show brd AQ X n i n=X i;unfold brd;rw[Gx d7,Gw (Nat.lt_irrefl _)]
    rw[e];exact hf.below j0)
   replace j0:=Za j0;replace q9:=Za q9;replace k7:=Za k7;replace k0:=Za k0;replace j8:=Za j8;replace n2:=Za n2;clear q8 g0 p7 o2 hf;go_wp2_with fail;rw[k0.out,k7.out,j8.out];clear k0 j8 f0 f1 f2 f3
   go_loopg [10,11,24] i (λt v10 v11 kv wk=>∃ (k:Nat) (an:Bool) (aA:Option Addr) (ak ac:Nat) (am:Bool) (aB:Option Addr) (aj ad:Nat),k+t=i/\kv=.int .i64 k/\Hid (Blk wk (g8+1) 73 #[.bool an,.slice aA ak ac,.bool am,.slice aB aj ad])/\Hid (Fr wk an aA ak ac am aB aj ad (Zr (brd AQ X n) k i n))/\Hid (Kept (λk=>k=g8+1) V9 wk))
   case atStart=>exact⟨0,_,_,_,_,_,_,_,_,by omega,rfl,q9,p6,Za (Qn _ _)⟩
   case round =>
    clear q9 p6;obtain⟨wk,rfl⟩:=Gy wr;obtain⟨k,an,aA,ak,ac,am,aB,aj,ad,w9,rfl,qa,hA,f5⟩:=hrel;have υ9:=k7.out;have v0:=n2.out;have h6:Hid (Below wi.heap.size wi wk):=Za (j0.out.trans (f5.out.to_below (λk e=>by omega) Gk));have m3:Hid (Below w1.heap.size w1 wk):=Za (Gs h4.out h6.out);have v6:=h6.out.size;cases gk with
    | succ t' =>
     obtain rfl:t'=i-(k+1):=Gk;have g2:k<i:=Gk;have t2:decide ((k:Int)<(i:Int))=true:=Gv Gk;have bk:(k:Int)<(i:Int):=Gk;obtain⟨gy,oy,bn,bA,l9,bc,bm,bB,bj,bd,rfl,⟨b0,b1,b2,b3⟩,hb⟩:=(k4.out.below h6.out).at_ g2;rw[zL_at g2]at hb;obtain⟨gm,om,Ar,nr,cr,m8,m0,hR⟩:=(r9.out.below m3.out).at_ d7;subst m8;rw[Znb d7]at hR;obtain rfl:i=nr:=by rw[<- hR.len,Zgb]
     have t9:=hR.cap;unfold maxLen at t9;obtain⟨gr,or_,ln,lA,lk,lc,lm,lB,lj,ld,rfl,⟨l0,l1,l2,l3⟩,hl⟩:=hR.at_ g2;rw[Zmd g2]at hl;clear hR;have f9:=Za hb;have m7:=Za hl;have f7:=Za (Zc m3.out r6.out);clear hb hl;obtain⟨f4,h0⟩:=Gz wk.heap.size;obtain⟨c7,j4,c8,d8⟩:=Zan (w:=wk) 73 #[.bool bn,.slice bA l9 bc,.bool bm,.slice bB bj bd];rw[h0]at c8;replace qa:=Gm d8 qa;replace hA:=Za (hA.out.below d8);replace f5:=Za (f5.out.below d8);replace f9:=Za (f9.out.below d8);replace m7:=Za (m7.out.below d8);replace f7:=Gm d8 f7;have g7:=Gn h6 d8;clear h6 d8;replace c8:=Za c8;go_wp2_with fail;(try rw[h0]);(try rw[j4]);clear j4;replace h0:=Za h0;have n9:Hid (Below w1.heap.size w1 c7):=Za (Gs h4.out g7.out);obtain⟨w3,w5,x5,υ5,s9,m8,m1,hR⟩:=(r9.out.below n9.out).at_ d7;cases m8;rw[Znb d7]at hR;obtain rfl:i=υ5:=by rw[<- hR.len,Zgb]
     have q3:=hR.cap;unfold maxLen at q3;obtain⟨j7,j6,p4,q2,p1,r7,p2,p5,o8,s3,t0,⟨e3,e1,e2,e5⟩,o1⟩:=hR.at_ g2;subst t0;rw[Zmd g2]at o1;have g4:=Za o1;clear o1 hR m0 l0 l1 l2 l3 m7;have a8:c7.cell? ⟨g8+1,0,none⟩=some (.bool an):=qa.out.cell 0;have b4:c7.cell? ⟨g8+1,1,none⟩=some (.slice aA ak ac):=qa.out.cell 1;have b6:c7.cell? ⟨g8+1,2,none⟩=some (.bool am):=qa.out.cell 2;have b7:c7.cell? ⟨g8+1,3,none⟩=some (.slice aB aj ad):=qa.out.cell 3;have b9:c7.cell? ⟨f4,0,none⟩=some (.bool bn):=c8.out.cell 0;have a9:c7.cell? ⟨f4,1,none⟩=some (.slice bA l9 bc):=c8.out.cell 1;have c4:c7.cell? ⟨f4,2,none⟩=some (.bool bm):=c8.out.cell 2;have b5:c7.cell? ⟨f4,3,none⟩=some (.slice bB bj bd):=c8.out.cell 3;have b8:c7.cell? ⟨gf,0,none⟩=some (.slice (some ⟨gm,om,none⟩) n c1):=f7.out.cell 0;have y:Below c7.heap.size c7 c7.drew:=Zf (Qc _ _) 1;replace qa:=Gm y qa;replace hA:=Za (hA.out.below y);replace f5:=Za (f5.out.below y);replace f9:=Za (f9.out.below y);replace f7:=Gm y f7;replace c8:=Gm y c8;replace g4:=Za (g4.out.below y);have i4:=Gn g7 y;clear g7;replace m1:=Zb y m1;replace e3:=Zb y e3;replace e1:=Zb y e1;replace e2:=Zb y e2;replace e5:=Zb y e5;replace a8:=Zb y a8
     replace b4:=Zb y b4;replace b6:=Zb y b6;replace b7:=Zb y b7;replace b9:=Zb y b9;replace a9:=Zb y a9;replace c4:=Zb y c4;replace b5:=Zb y b5;replace b8:=Zb y b8;clear y;refine Zz [13] (λwx=>(wx.cell? ⟨gm,om+i,none⟩=some (.slice (some ⟨j7,j6,none⟩) i s9))/\(wx.cell? ⟨j7,j6+k*4,none⟩=some (.bool p4))/\(wx.cell? ⟨j7,j6+k*4+1,none⟩=some (.slice q2 p1 r7))/\(wx.cell? ⟨j7,j6+k*4+2,none⟩=some (.bool p2))/\(wx.cell? ⟨j7,j6+k*4+3,none⟩=some (.slice p5 o8 s3))/\(wx.cell? ⟨g8+1,0,none⟩=some (.bool an))/\(wx.cell? ⟨g8+1,1,none⟩=some (.slice aA ak ac))/\(wx.cell? ⟨g8+1,2,none⟩=some (.bool am))/\(wx.cell? ⟨g8+1,3,none⟩=some (.slice aB aj ad))/\(wx.cell? ⟨f4,0,none⟩=some (.bool bn))/\(wx.cell? ⟨f4,1,none⟩=some (.slice bA l9 bc))/\(wx.cell? ⟨f4,2,none⟩=some (.bool bm))/\(wx.cell? ⟨f4,3,none⟩=some (.slice bB bj bd))/\(wx.cell? ⟨gf,0,none⟩=some (.slice (some ⟨gm,om,none⟩) n c1))) hmx ⟨m1,e3,e1,e2,e5,a8,b4,b6,b7,b9,a9,c4,b5,b8⟩ (λ_=>?_);refine Zke 10 [0,1,2,3,4,5,6,7,8,9] rfl Gi ⟨m1,e3,e1,e2,e5,a8,b4,b6,b7,b9,a9,c4,b5,b8⟩ ?_
     iterate 10 (refine tkA ?_;try simp only[Qa,Zhf,Zgs,Zg9,Gr,Gq,Gp])
     refine tk0 ?_;obtain⟨p9,g6⟩:=Gz c7.drew.heap.size;obtain⟨r4,k3,e4,I⟩:=Zan (w:=c7.drew) 73 #[.bool bn,.slice bA l9 bc,.bool bm,.slice bB bj bd];rw[g6]at e4;refine wpAnyL_o 10 λK hK=>?_;go_simp;(try rw[g6]);(try rw[k3]);clear k3;replace qa:=Gm I qa;replace hA:=Za (hA.out.below I);replace f5:=Za (f5.out.below I);replace f9:=Za (f9.out.below I);replace f7:=Gm I f7;replace c8:=Gm I c8;replace g4:=Za (g4.out.below I);have i6:=Gn i4 I;clear i4;replace m1:=Zb I m1;replace e3:=Zb I e3;replace e1:=Zb I e1;replace e2:=Zb I e2;replace e5:=Zb I e5;replace a8:=Zb I a8;replace b4:=Zb I b4;replace b6:=Zb I b6;replace b7:=Zb I b7;replace b9:=Zb I b9;replace a9:=Zb I a9;replace c4:=Zb I c4;replace b5:=Zb I b5;replace b8:=Zb I b8;clear I;replace e4:=Za e4;replace g6:=Za g6;refine hK.out _ _ (λ_=>⟨m1,e3,e1,e2,e5,a8,b4,b6,b7,b9,a9,c4,b5,b8⟩) ?_;clear hK K
     try simp only[Qa,Zhf,Zgs,Zg9,Gr,Gq,Gp]
     have d4:=FL.sing1 e4.out f9.out;replace d4:=Za d4;have sl:Sm (lQ AQ i k):=hS.out.l i k g2 d7;have sz:Sm (zV AQ n X k):=hS.out.a k k (Qb _) Gk;refine wpAnyL_o 11 λK hK=>?_;go_simp;refine(Zcf p4 q2 p1 r7 p2 p5 o8 s3 _ (some ⟨p9,0,none⟩) 1 1 [zV AQ n X k] r4 g4.out d4.out Gj (Zeq sl) (Zfq sz)).mono ?_;rintro e q0 ⟨o,pn,pA,pk,pc,pm,pB,pj,pd,rfl,pf⟩;replace qa:=Gm o qa;replace hA:=Za (hA.out.below o);replace f5:=Za (f5.out.below o);replace f9:=Za (f9.out.below o);replace f7:=Gm o f7;replace c8:=Gm o c8;replace g4:=Za (g4.out.below o);replace e4:=Gm o e4;replace d4:=Za (d4.out.below o);have i5:=Gn i6 o;clear i6;replace m1:=Zb o m1;replace e3:=Zb o e3;replace e1:=Zb o e1;replace e2:=Zb o e2;replace e5:=Zb o e5;replace a8:=Zb o a8;replace b4:=Zb o b4;replace b6:=Zb o b6;replace b7:=Zb o b7;replace b9:=Zb o b9;replace a9:=Zb o a9;replace c4:=Zb o c4;replace b5:=Zb o b5;replace b8:=Zb o b8;clear o;rw[Zia]at pf;replace pf:=Za pf;refine hK.out _ _ (λ_=>⟨m1,e3,e1,e2,e5,a8,b4,b6,b7,b9,a9,c4,b5,b8⟩) ?_;clear hK K
     try simp only[Qa,Zhf,Zgs,Zg9,Gr,Gq,Gp]
     refine wpAnyL_o 12 λK hK=>?_;go_simp;refine(Ze4 an am pn pm aA aB pA pB ak ac aj ad pk pc pj pd _ _ q0 hA.out pf.out (hS.out.a k i Gk d7) (hS.out.ly i k g2 d7)).mono ?_;rintro e j1 ⟨f,rn,rA,rk,rc,rm,rB,rj,rd,rfl,rf⟩;replace qa:=Gm f qa;replace hA:=Za (hA.out.below f);replace f5:=Za (f5.out.below f);replace f9:=Za (f9.out.below f);replace f7:=Gm f f7;replace c8:=Gm f c8;replace g4:=Za (g4.out.below f);replace e4:=Gm f e4;replace d4:=Za (d4.out.below f);replace pf:=Za (pf.out.below f);have υ0:=Gn i5 f;clear i5;replace m1:=Zb f m1;replace e3:=Zb f e3;replace e1:=Zb f e1;replace e2:=Zb f e2;replace e5:=Zb f e5;replace a8:=Zb f a8;replace b4:=Zb f b4;replace b6:=Zb f b6;replace b7:=Zb f b7;replace b9:=Zb f b9;replace a9:=Zb f a9;replace c4:=Zb f c4;replace b5:=Zb f b5;replace b8:=Zb f b8;clear f;rw[<- Zpp g2 d7]at rf;replace rf:=Za rf;refine hK.out _ _ (λ_=>⟨m1,e3,e1,e2,e5,a8,b4,b6,b7,b9,a9,c4,b5,b8⟩) ?_;clear hK K
     try simp only[Qa,Zhf,Zgs,Zg9,Gr,Gq,Gp]
     obtain⟨n0,o6,n5,m6⟩:j1.frozen? ⟨g8+1,0,none⟩=false/\j1.frozen? ⟨g8+1,1,none⟩=false/\j1.frozen? ⟨g8+1,2,none⟩=false/\j1.frozen? ⟨g8+1,3,none⟩=false:=⟨qa.out.frozen 0,qa.out.frozen 1,qa.out.frozen 2,qa.out.frozen 3⟩;obtain⟨W5,i2,q5,f8,s5⟩:=Zau rn rA rk rc rm rB rj rd qa.out;refine Zu (i:=13) rfl Gi Gi (λK hK=>?_);go_simp;(try rw[i2]);refine hK.out _ _ ?_;clear hK K
     try simp only[Qa,Zhf,Zgs,Zg9,Gr,Gq,Gp]
     have n8:=Za (rf.out.keptN f8 qa.out (Za6 _ _ _ _ _ _ _ _));have j9:Hid (Kept (λk=>k=g8+1) V9 W5):=Za (Kept.trans f5.out f8);have o7:=Za q5;clear n0 o6 n5 m6 i2 f8 s5 q5 rf pf hA qa d4 e4 sl sz;refine wpAnyL_fin ?_;clear m1 e3 e1 e2 e5 a8 b4 b6 b7 b9 a9 c4 b5 b8;go_wp2_with fail
     go_roundg (i-(k+1))
     case measure=>omega
     case rel=>exact⟨k+1,_,_,_,_,_,_,_,_,by omega,by go_num,o7,n8,j9⟩
    | zero =>
     obtain rfl:k=i:=Gk;have t2:decide ((k:Int)<(k:Int))=false:=Gh;have n3:Zr (brd AQ X n) k k n=zV AQ n X k:=rfl;rw[n3]at hA;obtain⟨Y1,p8,qz,j3⟩:=Zan (w:=wk) 73 #[.bool an,.slice aA ak ac,.bool am,.slice aB aj ad];obtain⟨gz,o4⟩:=Gz wk.heap.size;rw[o4]at qz;have i9:Below wi.heap.size wi Y1:=Gs h6.out j3;have q4:=hO.out.kept i9;have m4:=hA.out.below j3;have n7:=(hK.out.below i9).size;have t7:(zL AQ n X k).length+1<=1000:=by rw[Zu7];omega
     obtain⟨a0,a1,a2,a3,-⟩:=qa.out.four;replace n3:=Za n3;go_wp2_with ((try rw[p8]);(try rw[o4]);at_builtin;refine Zcu _ rfl (.tmp 43) (.tmp 45) 97 rfl V5.heap.size 73 iN Tryz.underlying97 hi υ2 υ8 t5 _ _ rfl q4 _ (some ⟨gz,0,none⟩) 1 1 [⟨an,aA,ak,ac,am,aB,aj,ad,zV AQ n X k⟩] rfl (Zb9 _ qz) rfl (by intro e he;rw[Qv]at he;subst he;exact m4) t7 n7 ?_;intro v7 w7 k2 l6 n6);simp only[Qp,Qs]at k2;rw[<- zL_succ]at k2;obtain⟨t4,t3,e7,k8⟩:=k2.fl;rw[Zu7]at e7 k8;subst e7;have s8:=k8.cap;unfold maxLen at s8;have l8:∀ q,(Value.slice Ay k cy).ownBlock=some q->V5.heap.size<=q/\q<wi.heap.size:=λq e=>⟨hO.out.row_ge q e,hO.out.blt q e⟩;have n1:Kept (λq=>q=g3) V5 w7:=Kept.grownC (hK.out.below i9) l6 (λq e=>(l8 q e).1);have h1:Hid (Below w1.heap.size w1 w7):=Za (l4.out.trans (n1.to_below (λq e=>by rw[e];exact Nat.le_of_eq g9.out) l4.out.size))
     have c6:Hid (Blk w7 g3 73 #[.bool sn,.slice sA sk sc,.bool sm,.slice sB sj sd]):=Za ((l6.block g3 (by have:=i9.size;omega) (λe=>by
      have h9:=(l8 g3 (by first|exact e|exact e.symm)).1;omega)).trans (Zc i9 qs.out))
     have d6:Hid (Blk w7 (g8+1) 73 #[.bool an,.slice aA ak ac,.bool am,.slice aB aj ad]):=Za ((l6.block (g8+1) (by have:=j3.size;have:=qa.out.lt;omega) (λe=>by
      have h9:=(l8 (g8+1) (by first|exact e|exact e.symm)).2;omega)).trans (Zc j3 qa.out))
     have e0:Hid (Fr w7 sn sA sk sc sm sB sj sd (Z0 k (λs=>zV AQ n X s*zV AQ n X s/dQ AQ s))):=Za ((hs.out.below i9).of_keep n6);have d9:Hid (Fr w7 an aA ak ac am aB aj ad (zV AQ n X k)):=Za (m4.of_keep n6);obtain⟨gd,od,dn,dA,dk,dc,dm,dB,dj,dd,υ1,⟨d0,d1,d2,d3⟩,hd⟩:=(υ7.out.below h1.out).at_ d7;subst υ1;rw[Zq6 d7]at hd;have e9:=Za hd;have e8:=Za (Zc h1.out r6.out);have t6:=Za k2;have e6:=Za n1;have v3:=Za n7;have w8:g3<V5.heap.size:=Gk
     replace k8:=Za k8;clear hd k2 n1 p8 o4 j3 i9 q4 m4 n7 n6 l6 l8 a0 a1 a2 a3 qz;have d5:Hid (Below w7.heap.size w7 w7):=Za (Qc _ _);go_wp2_with fail;have a4:w7.cell? ⟨g3,0,none⟩=some (.bool sn):=c6.out.cell 0;have J:w7.cell? ⟨g3,1,none⟩=some (.slice sA sk sc):=c6.out.cell 1;have a6:w7.cell? ⟨g3,2,none⟩=some (.bool sm):=c6.out.cell 2;have O:w7.cell? ⟨g3,3,none⟩=some (.slice sB sj sd):=c6.out.cell 3;have Y:w7.cell? ⟨g8+1,0,none⟩=some (.bool an):=d6.out.cell 0;have a7:w7.cell? ⟨g8+1,1,none⟩=some (.slice aA ak ac):=d6.out.cell 1;have U:w7.cell? ⟨g8+1,2,none⟩=some (.bool am):=d6.out.cell 2;have a5:w7.cell? ⟨g8+1,3,none⟩=some (.slice aB aj ad):=d6.out.cell 3;have T:w7.cell? ⟨gf,1,none⟩=some (.slice (some ⟨gd,od,none⟩) n c2):=e8.out.cell 1;have u:Below w7.heap.size w7 w7.drew:=Zf (Qc _ _) 1;replace d5:=Gn d5 u;replace c6:=Gm u c6;replace d6:=Gm u d6;replace e0:=Za (e0.out.below u);replace d9:=Za (d9.out.below u);replace e9:=Za (e9.out.below u);replace e8:=Gm u e8;replace e6:=Za (e6.out.below u);have i8:=Gn h1 u;clear h1;replace a4:=Zb u a4;replace J:=Zb u J;replace a6:=Zb u a6;replace O:=Zb u O;replace Y:=Zb u Y;replace a7:=Zb u a7
     replace U:=Zb u U;replace a5:=Zb u a5;replace T:=Zb u T;replace d0:=Zb u d0;replace d1:=Zb u d1;replace d2:=Zb u d2;replace d3:=Zb u d3;clear u;refine Zz [13] (λwx=>(wx.cell? ⟨g3,0,none⟩=some (.bool sn))/\(wx.cell? ⟨g3,1,none⟩=some (.slice sA sk sc))/\(wx.cell? ⟨g3,2,none⟩=some (.bool sm))/\(wx.cell? ⟨g3,3,none⟩=some (.slice sB sj sd))/\(wx.cell? ⟨g8+1,0,none⟩=some (.bool an))/\(wx.cell? ⟨g8+1,1,none⟩=some (.slice aA ak ac))/\(wx.cell? ⟨g8+1,2,none⟩=some (.bool am))/\(wx.cell? ⟨g8+1,3,none⟩=some (.slice aB aj ad))/\(wx.cell? ⟨gf,1,none⟩=some (.slice (some ⟨gd,od,none⟩) n c2))/\(wx.cell? ⟨gd,od+k*4,none⟩=some (.bool dn))/\(wx.cell? ⟨gd,od+k*4+1,none⟩=some (.slice dA dk dc))/\(wx.cell? ⟨gd,od+k*4+2,none⟩=some (.bool dm))/\(wx.cell? ⟨gd,od+k*4+3,none⟩=some (.slice dB dj dd))) hmx ⟨a4,J,a6,O,Y,a7,U,a5,T,d0,d1,d2,d3⟩ (λ_=>?_);refine Zke 8 [0,1,2,5,6,7,8,9] rfl Gi ⟨a4,J,a6,O,Y,a7,U,a5,T,d0,d1,d2,d3⟩ ?_
     iterate 8 (refine tkA ?_;try simp only[Qa,Zhf,Zgs,Zg9,Gr,Gq,Gp])
     refine tk0 ?_;obtain⟨s7,g5⟩:=Gz w7.drew.heap.size;obtain⟨s1,k6,c9,C⟩:=Zan (w:=w7.drew) 73 #[.bool an,.slice aA ak ac,.bool am,.slice aB aj ad];rw[g5]at c9;refine wpAnyL_o 3 λK hK=>?_;go_simp;(try rw[g5]);(try rw[k6]);clear k6;replace d5:=Gn d5 C;replace c6:=Gm C c6;replace d6:=Gm C d6;replace e0:=Za (e0.out.below C);replace d9:=Za (d9.out.below C);replace e9:=Za (e9.out.below C);replace e8:=Gm C e8;replace e6:=Za (e6.out.below C);have i3:=Gn i8 C;clear i8;replace a4:=Zb C a4;replace J:=Zb C J;replace a6:=Zb C a6;replace O:=Zb C O;replace Y:=Zb C Y;replace a7:=Zb C a7;replace U:=Zb C U;replace a5:=Zb C a5;replace T:=Zb C T;replace d0:=Zb C d0;replace d1:=Zb C d1;replace d2:=Zb C d2;replace d3:=Zb C d3;clear C;replace c9:=Za c9;replace g5:=Za g5;refine hK.out _ _ (λ_=>⟨a4,J,a6,O,Y,a7,U,a5,T,d0,d1,d2,d3⟩) ?_;clear hK K
     try simp only[Qa,Zhf,Zgs,Zg9,Gr,Gq,Gp]
     have d4:=Za (FL.sing1 c9.out d9.out);have szz:Sm (zV AQ n X k):=hS.out.a k k (Qb _) d7;have q6:dQ AQ k≠0:=hp.out.ne d7;refine wpAnyL_o 4 λK hK=>?_;go_simp;refine(Zcf an aA ak ac am aB aj ad _ (some ⟨s7,0,none⟩) 1 1 [zV AQ n X k] s1 d9.out d4.out Gj (Zeq szz) (Zfq szz)).mono ?_;rintro e s4 ⟨o,pn,pA,pk,pc,pm,pB,pj,pd,rfl,pf⟩;replace d5:=Gn d5 o;replace c6:=Gm o c6;replace d6:=Gm o d6;replace e0:=Za (e0.out.below o);replace d9:=Za (d9.out.below o);replace e9:=Za (e9.out.below o);replace e8:=Gm o e8;replace e6:=Za (e6.out.below o);replace c9:=Gm o c9;replace d4:=Za (d4.out.below o);have i0:=Gn i3 o;clear i3;replace a4:=Zb o a4;replace J:=Zb o J;replace a6:=Zb o a6;replace O:=Zb o O;replace Y:=Zb o Y;replace a7:=Zb o a7;replace U:=Zb o U;replace a5:=Zb o a5;replace T:=Zb o T;replace d0:=Zb o d0;replace d1:=Zb o d1;replace d2:=Zb o d2;replace d3:=Zb o d3;clear o;rw[Zia]at pf;replace pf:=Za pf;refine hK.out _ _ (λ_=>⟨a4,J,a6,O,Y,a7,U,a5,T,d0,d1,d2,d3⟩) ?_;clear hK K
     try simp only[Qa,Zhf,Zgs,Zg9,Gr,Gq,Gp]
     refine wpAnyL_o 10 λK hK=>?_;go_simp;refine(Zto pn pm dn dm pA pB dA dB pk pc pj pd dk dc dj dd _ _ s4 pf.out e9.out (hS.out.zz k d7) (hS.out.d k d7) q6).mono ?_;rintro e m2 ⟨c5,qn,qA,qk,qc,qm,qB,qj,qd,rfl,qf⟩;replace d5:=Gn d5 c5;replace c6:=Gm c5 c6;replace d6:=Gm c5 d6;replace e0:=Za (e0.out.below c5);replace d9:=Za (d9.out.below c5);replace e9:=Za (e9.out.below c5);replace e8:=Gm c5 e8;replace e6:=Za (e6.out.below c5);replace c9:=Gm c5 c9;replace d4:=Za (d4.out.below c5);replace pf:=Za (pf.out.below c5);have i7:=Gn i0 c5;clear i0;replace a4:=Zb c5 a4;replace J:=Zb c5 J;replace a6:=Zb c5 a6;replace O:=Zb c5 O;replace Y:=Zb c5 Y;replace a7:=Zb c5 a7;replace U:=Zb c5 U;replace a5:=Zb c5 a5;replace T:=Zb c5 T;replace d0:=Zb c5 d0;replace d1:=Zb c5 d1;replace d2:=Zb c5 d2;replace d3:=Zb c5 d3;clear c5;replace qf:=Za qf;refine hK.out _ _ (λ_=>⟨a4,J,a6,O,Y,a7,U,a5,T,d0,d1,d2,d3⟩) ?_;clear hK K
     try simp only[Qa,Zhf,Zgs,Zg9,Gr,Gq,Gp]
     obtain⟨r5,g1⟩:=Gz m2.heap.size;obtain⟨p3,k1,f6,h⟩:=Zan (w:=m2) 73 #[.bool sn,.slice sA sk sc,.bool sm,.slice sB sj sd,.bool qn,.slice qA qk qc,.bool qm,.slice qB qj qd];rw[g1]at f6;refine wpAnyL_o 11 λK hK=>?_;go_simp;(try rw[g1]);(try rw[k1]);clear k1;replace d5:=Gn d5 h;replace c6:=Gm h c6;replace d6:=Gm h d6;replace e0:=Za (e0.out.below h);replace d9:=Za (d9.out.below h);replace e9:=Za (e9.out.below h);replace e8:=Gm h e8;replace e6:=Za (e6.out.below h);replace c9:=Gm h c9;replace d4:=Za (d4.out.below h);replace pf:=Za (pf.out.below h);replace qf:=Za (qf.out.below h);have i1:=Gn i7 h;clear i7;replace a4:=Zb h a4;replace J:=Zb h J;replace a6:=Zb h a6;replace O:=Zb h O;replace Y:=Zb h Y;replace a7:=Zb h a7;replace U:=Zb h U;replace a5:=Zb h a5;replace T:=Zb h T;replace d0:=Zb h d0;replace d1:=Zb h d1;replace d2:=Zb h d2;replace d3:=Zb h d3;clear h;replace f6:=Za f6;replace g1:=Za g1;refine hK.out _ _ (λ_=>⟨a4,J,a6,O,Y,a7,U,a5,T,d0,d1,d2,d3⟩) ?_;clear hK K
     try simp only[Qa,Zhf,Zgs,Zg9,Gr,Gq,Gp]
     have l7:=Za (FL.pair2 f6.out e0.out qf.out);refine wpAnyL_o 12 λK hK=>?_;go_simp;refine(Zmj (some ⟨r5,0,none⟩) 2 2 [_,_] p3 l7.out Gj (Zre (hS.out.s k Gk)) (Zuz (hS.out.s k Gk) (hS.out.q k d7))).mono ?_;rintro e j2 ⟨f,rn,rA,rk,rc,rm,rB,rj,rd,rfl,rf⟩;replace d5:=Gn d5 f;replace c6:=Gm f c6;replace d6:=Gm f d6;replace e0:=Za (e0.out.below f);replace d9:=Za (d9.out.below f);replace e9:=Za (e9.out.below f);replace e8:=Gm f e8;replace e6:=Za (e6.out.below f);replace c9:=Gm f c9;replace d4:=Za (d4.out.below f);replace pf:=Za (pf.out.below f);replace qf:=Za (qf.out.below f);replace f6:=Gm f f6;replace l7:=Za (l7.out.below f);have υ6:=Gn i1 f;clear i1;replace a4:=Zb f a4;replace J:=Zb f J;replace a6:=Zb f a6;replace O:=Zb f O;replace Y:=Zb f Y;replace a7:=Zb f a7;replace U:=Zb f U;replace a5:=Zb f a5;replace T:=Zb f T;replace d0:=Zb f d0;replace d1:=Zb f d1;replace d2:=Zb f d2;replace d3:=Zb f d3;clear f;rw[sumF2]at rf;replace rf:=Za rf;refine hK.out _ _ (λ_=>⟨a4,J,a6,O,Y,a7,U,a5,T,d0,d1,d2,d3⟩) ?_;clear hK K
     try simp only[Qa,Zhf,Zgs,Zg9,Gr,Gq,Gp]
     obtain⟨n0,o6,n5,m6⟩:j2.frozen? ⟨g3,0,none⟩=false/\j2.frozen? ⟨g3,1,none⟩=false/\j2.frozen? ⟨g3,2,none⟩=false/\j2.frozen? ⟨g3,3,none⟩=false:=⟨c6.out.frozen 0,c6.out.frozen 1,c6.out.frozen 2,c6.out.frozen 3⟩;obtain⟨W5,i2,q5,f8,s5⟩:=Zau rn rA rk rc rm rB rj rd c6.out;refine Zu (i:=13) rfl Gi Gi (λK hK=>?_);go_simp;(try rw[i2]);refine hK.out _ _ ?_;clear hK K
     try simp only[Qa,Zhf,Zgs,Zg9,Gr,Gq,Gp]
     have n8:Hid (Fr W5 rn rA rk rc rm rB rj rd (Z0 (k+1) (λs=>zV AQ n X s*zV AQ n X s/dQ AQ s))):=Za (rf.out.keptN f8 c6.out (Za6 _ _ _ _ _ _ _ _));have j9:Hid (Kept (λq=>q=g3) V5 W5):=Za (Kept.trans e6.out f8);have m5:=t6.out.kept d5.out;have r8:Hid (OwnF 73 W5 V5.heap.size (.slice t4 (k+1) t3) (zL AQ n X (k+1))):=Za (m5.keptG c6.out (Za6 _ _ _ _ _ _ _ _) (λe=>by have:=m5.row_ge g3 e;omega) f8);have o7:=Za q5;clear n0 o6 n5 m6 i2 f8 s5 q5 rf pf qf e0 d9 c6 d6 d4 l7 c9 f6 szz q6 m5;refine wpAnyL_fin ?_;clear a4 J a6 O Y a7 U a5 T d0 d1 d2 d3;go_wp2_with fail
     go_roundg (n-(k+1))
     case measure=>omega
     case rel=>exact⟨k+1,_,_,_,_,_,_,_,_,by omega,by go_num,r8,o7,n8,j9⟩
def Zib(rs:List RX)(es:List FX):Int:=if Zat rs≠0 then Zat rs else if es.length=rs.length/\Zcz es=true then 0 else 8
def Zrw(es:List FX)(i:Nat):Rat:=(es.map FX.q)[i]?.getD 0
def Zpt(rs:List RX)(es:List FX):Rat:=bil (Zh (qM rs)) rs.length (Zrw es) (Zrw es)
def DistPost(rs:List RX)(es:List FX)(w:World)(e:Ending)(w':World):Prop:=
 Below w.heap.size w w'/\((Zib rs es=0/\∃ na A n c nb B m d,e=.returned (.tuple #[.agg #[.bool na,.slice A n c,.bool nb,.slice B m d],.int .i64 0])/\Fr w' na A n c nb B m d (Zpt rs es)) \/
  (Zib rs es≠0/\e=.returned (.tuple #[.agg #[.bool false,.slice none 0 0,.bool false,.slice none 0 0],.int .i64 (Zib rs es)])))
theorem DistPost.fall{rs:List RX}{es:List FX}{w w':World}{E:Int}(hb:Below w.heap.size w w')(h:Zib rs es=E)(h0:E≠0):DistPost rs es w (.returned (.tuple #[.agg #[.bool false,.slice none 0 0,.bool false,.slice none 0 0],.int .i64 E])) w':=by
 subst h;exact⟨hb,.inr ⟨h0,rfl⟩⟩
section
variable{rs:List RX}{es:List FX}{E:Int}
theorem Zp3(h:Zat rs=E)(h0:E≠0):Zib rs es=E:=by subst h;exact Gx h0
theorem Zk0(h:Zat rs=0)(hb:¬ (es.length=rs.length/\Zcz es=true)):Zib rs es=8:=by
 unfold Zib;rw[Gw (by simp[h])];exact Gw hb
theorem Zsk(h:Zat rs=0)(hb:es.length=rs.length/\Zcz es=true):Zib rs es=0:=by
 unfold Zib;rw[Gw (by simp[h])];exact Gx hb
end
theorem Zwr(na:Bool)(A:Option Addr)(n c:Nat)(nb:Bool)(B:Option Addr)(m d:Nat)(w:World):(Instr.field 73 (.agg #[.bool na,.slice A n c,.bool nb,.slice B m d]) 0).run Tryz.prog w=.ok (.agg #[.bool na,.slice A n c,.bool nb,.slice B m d]) w:=by kernel_rfl
theorem EI{G:Prop}(h:G:=by
 obtain⟨U,hU,aS,q3,-,kq,-⟩:=Z8 8 aR (Nat.le_succ _) (hk _ _ _ (q1.out));rw[hV,hU]at hw;subst hw;have r4:=q3.cell 0;simp at r4;obtain⟨d0,d1,d2,d3,-⟩:=(kq _ _ _ Gk (hk _ _ _ (q0.out))).four;exact⟨.tuple #[.agg #[.bool false,.slice none 0 0,.bool false,.slice none 0 0],.int .i64 8],by simp[results,Tryz.results25,go_sem,r4,d0,d1,d2,d3],DistPost.fall aS aO.out (by first|decide|assumption|exact dh.out)⟩):G:=h
theorem Zo0(A V:Option Addr)(n c nv cv:Nat)(rs:List RX)(es:List FX)(w:World)(h:MXL w A n c rs)(hF:FacC rs)(hv:FXL w V nv cv es)(hS:Zib rs es=0->Ztm (Zh (qM rs)) rs.length (Zrw es)) :
    Calls Tryz.prog 25 #[.slice A n c,.slice V nv cv] w (DistPost rs es w):=by
 have a0:=Za h.1;have c0:=Za hv.1;have e5:=h.2.1;have c5:=h.2.2.1;have d9:=hv.2.1;have b9:=hv.2.2.1;unfold maxLen at c5 b9;obtain⟨W0,b8,y,⟨q0,q1⟩,s0⟩:=Zef w 41 #[.bool false,.slice none 0 0,.bool false,.slice none 0 0] 26 #[.int .i64 0];have hC:=Za (Zgj A n c rs W0 (h.below y) hF);have hH:=Za (h.below y);have C:=Za (hv.below y);replace hS:=Za hS;replace q0:=Za q0;replace q1:=Za q1;replace y:=Za y;clear h hv hF;replace s0:=Za s0
 go_enter_defers Tryz.func25,Tryz.ntmps25
 go_wp2_with fail;(try rw[b8]);clear b8;refine hC.out.mono ?_;rintro e w1 ⟨O,⟨h0,v1,v2,L0,rfl,b2⟩|⟨h0,rfl⟩⟩
 case inr =>
  have a1:=Gs y.out O;have k0:=Zc O q0.out;have k1:=Zc O q1.out;obtain⟨E,hE⟩:=Gz (Zat rs);rw[hE]at h0 ⊢;have dh:=Za h0;have aO:=Zp3 (es:=es) hE h0;replace hE:=Za hE;go_wp2_with fail;refine leaves_cons (f:=39) (args:=#[.pointer (some ⟨w.heap.size+1,0,none⟩)]) Gh Ge ?_;have e0:=(k1).cell 0;simp at e0;refine(Zae ⟨w.heap.size+1,0,none⟩ E 0 _ e0 ((k1).frozen 0)).mono ?_;rintro e u' w'' ⟨rfl,rfl,hw⟩;obtain⟨V,hV,aR,-,-,hk,sV⟩:=Zn 117 #[.int .i64 E] (a1) ((a1).size);obtain⟨U,hU,aS,q3,-,kq,-⟩:=Z8 E aR (Nat.le_succ _) (hk _ _ _ (k1));rw[hV,hU]at hw;subst hw;have r4:=q3.cell 0;simp at r4;obtain⟨d0,d1,d2,d3,-⟩:=(kq _ _ _ Gk (hk _ _ _ (k0))).four;exact⟨.tuple #[.agg #[.bool false,.slice none 0 0,.bool false,.slice none 0 0],.int .i64 E],by simp[results,Tryz.results25,go_sem,r4,d0,d1,d2,d3],DistPost.fall aS aO (by first|decide|assumption|exact dh.out)⟩
 obtain⟨A1,c1,e1,o⟩:=b2.1.mflA;obtain⟨A2,c2,e2,u⟩:=b2.2.1.fl;rw[Zf3]at e1 o;rw[Zj3]at e2 u;rw[a0.out]at e1 o e2 u;subst e1;subst e2;have c4:=o.2.1;have a6:=o.2.2.1;have b3:=u.cap;unfold maxLen at a6 b3;obtain⟨b7,d4,a9⟩:=Zew h0;have c7:n<=6:=by rw[<- a0.out];exact b7.facts.2.1
 rw[a0.out]at a9;have hp:=Za a9;replace o:=Za o;replace u:=Za u;replace h0:=Za h0;have a1:=Gn y O;replace q0:=Gm O q0;replace q1:=Gm O q1;replace C:=Za (C.out.below O);clear b2 b7 d4 a9 hC hH y O L0;obtain⟨g1,Y⟩:=Gz w1.heap.size;obtain⟨V3,a7,q5,T⟩:=Zan (w:=w1) 99 #[.slice A1 n c1,.slice A2 n c2];rw[Y]at q5;replace o:=Za (o.out.below T);replace u:=Za (u.out.below T);replace q0:=Gm T q0;replace q1:=Gm T q1;replace C:=Za (C.out.below T);have a3:=Gn a1 T;clear a1 T;replace q5:=Za q5;by_cases a2:nv=n
 case neg =>
  have t1:((nv:Int) == (n:Int))=false:=by simp;omega
  have e4:decide ((nv:Int)=(n:Int))=false:=Gu Gk;have d8:decide (nv=n)=false:=Gu a2;have aO:=Za (Zk0 (es:=es) h0.out (λhh=>a2 (by rw[<- c0.out,<- a0.out];exact hh.1)));replace a2:=Za a2;go_wp2_with fail;(try rw[Y]);(try rw[a7]);clear a7;replace Y:=Za Y;refine(Zai 8 V3).mono ?_;rintro e w6 ⟨rfl,rfl⟩;go_wp2_with fail;refine leaves_cons (f:=39) (args:=#[.pointer (some ⟨w.heap.size+1,0,none⟩)]) Gh Ge ?_;have e0:=(q1.out).cell 0;simp at e0;refine(Zae ⟨w.heap.size+1,0,none⟩ 8 0 _ e0 ((q1.out).frozen 0)).mono ?_;rintro e u' w'' ⟨rfl,rfl,hw⟩;obtain⟨V,hV,aR,-,-,hk,sV⟩:=Zn 117 #[.int .i64 8] (a3.out) ((a3.out).size);exact EI
 subst a2;have t1:((nv:Int) == (nv:Int))=true:=Gh;obtain⟨b,hb⟩:=Gz (Zcz es);have c9:=Za (λW1 (hx:FXL W1 V nv cv es)=>Zlq V nv cv es W1 hx b hb);replace hb:=Za hb;go_wp2_with fail;(try rw[Y]);(try rw[a7]);clear a7;replace Y:=Za Y;refine(c9.out V3 C.out).mono ?_;rintro e w8 ⟨rfl,J⟩;replace o:=Za (o.out.below J);replace u:=Za (u.out.below J);replace q0:=Gm J q0;replace q1:=Gm J q1;replace C:=Za (C.out.below J);replace q5:=Gm J q5;have a4:=Gn a3 J;clear a3 J;cases b with
 | false =>
  have aO:=Za (Zk0 (es:=es) h0.out (λhh=>by rw[hb.out]at hh;exact absurd hh.2 Gj));go_wp2_with fail;refine(Zai 8 w8).mono ?_;rintro e w6 ⟨rfl,rfl⟩;go_wp2_with fail;refine leaves_cons (f:=39) (args:=#[.pointer (some ⟨w.heap.size+1,0,none⟩)]) Gh Ge ?_;have e0:=(q1.out).cell 0;simp at e0;refine(Zae ⟨w.heap.size+1,0,none⟩ 8 0 _ e0 ((q1.out).frozen 0)).mono ?_;rintro e u' w'' ⟨rfl,rfl,hw⟩;obtain⟨V,hV,aR,-,-,hk,sV⟩:=Zn 117 #[.int .i64 8] (a4.out) ((a4.out).size);exact EI
 | true =>
  have aO:=Za (Zsk (es:=es) h0.out ⟨by rw[c0.out,a0.out],hb.out⟩);have d7:=Za (hS.out aO.out);have a5:=Za (C.out.fl (Zoi hb.out));clear hS C;go_wp2_with fail;refine(Zbi 8 w8).mono ?_;rintro e w6 ⟨rfl,rfl⟩;have c3:=q5.out.cell 0;have b4:=q5.out.cell 1;simp at c3 b4;have d6:Hid (Ztm (Zh (qM rs)) nv (λi:Nat=>(es.map FX.q)[i]?.getD 0)):=Za (by have h9:=d7.out;rw[a0.out]at h9;exact h9);go_wp2_with fail;clear c3 b4;refine(Z02 A1 A2 V nv c1 c2 cv (Zh (qM rs)) (es.map FX.q) w6 c7 o.out u.out a5.out hp.out d6.out).mono ?_;rintro e e6 ⟨I,dn,dA,dk,dc,dm,dB,dj,dd,rfl,df⟩;replace o:=Za (o.out.below I);replace u:=Za (u.out.below I);replace q0:=Gm I q0;replace q1:=Gm I q1;replace q5:=Gm I q5;replace a5:=Za (a5.out.below I);have b6:=Gn a4 I;clear a4 I;replace df:=Za df;obtain⟨x0,x1,x2,x3,f0,f1,f2,f3⟩:=q0.out.four;obtain⟨W5,c6,c8,q5,kW,kB,s5⟩:=Z7 dn dA dk dc dm dB dj dd b6.out (Qb _) q0.out;have b0:=kB _ _ _ Gk q1.out
  have a8:Hid (Fr W5 dn dA dk dc dm dB dj dd (Zpt rs es)):=Za (by
   have h9:Fr W5 dn dA dk dc dm dB dj dd (bil (Zh (qM rs)) nv (Zrw es) (Zrw es)):=⟨kW _ _ _ _ _ df.out.1,kW _ _ _ _ _ df.out.2⟩;unfold Zpt;rw[a0.out];exact h9)
  have e0:=b0.cell 0;have z0:=b0.frozen 0;simp at e0;obtain⟨U,hU,aS,q3,b1,b5,-⟩:=Z8 0 c8 (Nat.le_succ _) b0;have r4:=q3.cell 0;simp at r4;obtain⟨y0,y1,y2,y3,-⟩:=(b5 _ _ _ Gk q5).four;have d5:Hid (Fr U dn dA dk dc dm dB dj dd (Zpt rs es)):=Za ⟨b1 _ _ _ _ _ a8.out.1,b1 _ _ _ _ _ a8.out.2⟩;clear kW kB s5 b1 b5 df a8 a5 o u;have e3:=Zwr dn dA dk dc dm dB dj dd;go_wp2_with fail;(try rw[c6]);(try rw[hU]);refine leaves_cons (f:=39) (args:=#[.pointer (some ⟨w.heap.size+1,0,none⟩)]) Gh Ge ?_;refine(Zdv _ _).mono ?_;rintro e u' w'' ⟨rfl,rfl,rfl⟩;exact⟨.tuple #[.agg #[.bool dn,.slice dA dk dc,.bool dm,.slice dB dj dd],.int .i64 0],by simp[results,Tryz.results25,go_sem,r4,y0,y1,y2,y3],aS,.inl ⟨aO.out,_,_,_,_,_,_,_,_,rfl,d5.out⟩⟩
def LeN(k:Nat)(q:Rat):Prop:=q.num.natAbs<=pw k/\q.den<=pw k
def Zna(A:Nat->Nat->Rat)(x:Nat->Rat)(n:Nat):List (List Rat):=(Qk (n+1)).map λi=>(Qk (n+1)).map λk=>brd A x n i k
section
variable{A:Nat->Nat->Rat}{x:Nat->Rat}{n k:Nat}
theorem Zta:(Zna A x n).length=n+1:=by simp[Zna]
theorem Zua{i:Nat}(hi:i<n+1):((Zna A x n)[i]?.getD []).length=n+1:=by
 unfold Zna;rw[Qj,Qm hi];simp
theorem Fe{G:Prop}(h:G:=by
 rw[List.getElem?_map,List.getElem?_range hi,Option.map_some,Option.getD_some,List.getElem?_map,List.getElem?_range hj];rfl):G:=h
theorem Zxp{i j:Nat}(hi:i<n+1)(hj:j<n+1):Zh (Zna A x n) i j=brd A x n i j:=by
 unfold Zh Zna;exact Fe
theorem brdR_sm(hA:∀ i j,i<n->j<n->LeN k (A i j))(hx:∀ i,i<n->LeN k (x i)):SmE k (Zna A x n):=λi j=>by
 have h0:LeN k 0:=⟨Qu _,Zbt _⟩;by_cases hi:i<n+1
 ·by_cases hj:j<n+1
  ·rw[Zxp hi hj]
   unfold brd;by_cases h1:i<n
   ·rw[Gx h1]
    by_cases h2:j<n;rw[Gx h2];exact hA i j h1 h2;rw[Gw h2];exact hx i h1
   rw[Gw h1];by_cases h2:j<n;rw[Gx h2];exact hx j h2;rw[Gw h2];exact h0
  unfold Zh;rw[Qd (by rw[Zua hi];omega)];exact h0
 unfold Zh;rw[Qd (l:=Zna A x n) (by rw[Zta];omega)];exact h0
theorem Zmx{t i j:Nat}(ht:t<=n+1)(hi:i<n+1)(hj:j<n+1):Zr (Zh (Zna A x n)) t i j=Zr (brd A x n) t i j:=
 Zcr (n:=n+1) (m:=n+1) (λ_ _ hi hk=>Zxp hi hk) (Qb _) t i j ht hi hj
theorem Z3e(hp:posP A n){t:Nat}(ht:t<=n):posP (Zh (Zna A x n)) t:=λs hs=>by
 have e:dQ (Zh (Zna A x n)) s=dQ (brd A x n) s:=Zmx Gk Gk Gk;rw[e,brd_d x Gk];exact hp s Gk
theorem Z1l(hn:n<=6)(hA:∀ i j,i<n->j<n->LeN 7 (A i j))(hx:∀ i,i<n->LeN 7 (x i))(hp:posP A n){t i:Nat}(ht:t<=n)(hi:i<n+1):SmN 400 449 (Zr (brd A x n) t i n):=by
 have h:=(brdR_sm hA hx).red2 Zta Gk (λi hi=>Zua hi) (t:=t) Gk Gk (Z3e hp ht) hi n;rw[Zmx Gk hi Gk]at h;have h1:(7*(n+1)+7+1)*(n+1)<=399:=Nat.le_trans (Nat.mul_le_mul (show 7*(n+1)+7+1<=57 by omega) (show n+1<=7 by omega)) Gj;exact h.mono Gk Gk
theorem Zvy(hn:n<=6)(hF:FacP A n)(hA:∀ i j,i<n->j<n->LeN 7 (A i j))(hx:∀ i,i<n->LeN 7 (x i))(hp:posP A n):Ztm A n x:=by
 have hs:=λt i ht hi=>Z1l (t:=t) (i:=i) hn hA hx hp ht hi
 have f:∀ t,t<=n->Z0 t (λs=>zV A n x s*zV A n x s/dQ A s)=- Zr (brd A x n) t n n:=λt ht=>by
  have h:=Zx1 hF.sym x t ht;rw[h];rw[Zw (g:=λs=>Zr (brd A x n) s s n*Zr (brd A x n) s s n/dQ (brd A x n) s) (λs hs=>by rw[brd_d x Gk];rfl)]
  grind
 have o:∀ t,t<=n->SmN 400 449 (- Zr (brd A x n) t n n):=λt ht=>by
  have h:=hs t n ht Gk;exact⟨by rw[Rat.neg_num,Int.natAbs_neg];exact h.1,by rw[Rat.neg_den];exact h.2⟩
 refine⟨λt i hti hi=>(hs t i Gk Gk).sm Gj Gj,λi t hti hi=>(hF.l i t Gk hi (hp.mono Gk)).sm Gj Gj,λi t hti hi=>?_,λi hi=>((hs i i Gk Gk).mulN (hs i i Gk Gk)).sm Gj Gj,λi hi=>(hF.d hi (hp.mono Gk)).sm Gj Gj,λi hi=>?_,λi hi=>?_⟩
 ·have h:=Zpp (A:=A) (x:=x) hti hi
  have e:lQ A i t*Zr (brd A x n) t t n=Zr (brd A x n) t i n-Zr (brd A x n) (t+1) i n:=by
   rw[h];show lQ A i t*zV A n x t=_
   grind
  rw[e];exact((hs t i Gk Gk).sub (hs (t+1) i Gk Gk)).sm Gj Gj
 ·have h1:=f i Gk
  have h2:=f (i+1) Gk;have h3:Z0 (i+1) (λs=>zV A n x s*zV A n x s/dQ A s)=Z0 i (λs=>zV A n x s*zV A n x s/dQ A s)+zV A n x i*zV A n x i/dQ A i:=rfl
  have e:zV A n x i*zV A n x i/dQ A i=- Zr (brd A x n) (i+1) n n - - Zr (brd A x n) i n n:=by
   rw[<- h1,<- h2,h3];grind
  rw[e];exact((o (i+1) Gk).sub (o i Gk)).sm Gj Gj
 rw[f i hi];exact(o i hi).sm Gj Gj
end
