/- Reference of covar: solve. Package covar: vector, and the -/
import Derived.Deep.LoopGhost
import Derived.Test.YthappeninglakaaGreatZe16
set_option maxRecDepth 100000
set_option maxHeartbeats 16000000
set_option linter.unusedSimpArgs false
set_option linter.unusedVariables false
namespace Go.Proofs.YthappeninglakaaGreat
open Go.RowKit
open Below renaming refl→Qa
open Nat renaming le_refl→Qb,lt_or_ge→Qh,zero_le→Qm,zero_add→Qp,le_trans→Qw,lt_of_le_of_lt→QC
open Act renaming put→Qc
open List renaming replicate→Qd,getElem?_eq_none→Qe,mem_of_getElem?→Qf,getElem?_eq_getElem→Qg,getElem?_map→Qi,getElem?_set→Qj,length_map→Ql,getElem?_range→Qq,getElem_of_mem→Qr,map_cons→Qt,range→Qu,map_nil→Qv,all_eq_true→Qx,length_set→Qy,nil_append→Qz,length_append→QA,mem_singleton→QB,ext_getElem?→QD
open Option renaming map_some→Qk,getD_some→Qn
open Blk renaming new→Qo
open Kept renaming refl→Qs
open Bool renaming and_eq_true→QE
attribute [local go_sem] Zg
theorem Zyp{w:World}{t:TypeId}{g:Nat}{A:Option Addr}{n c:Nat}(h:Blk w g t #[.slice A n c]):Reads w (g+1) 1 (some ⟨g,0,none⟩) 1 (Zaq [⟨A,n,c⟩]):=
 ⟨rfl,λ_=>⟨_,rfl,Nat.lt_succ_self _,λj u hu=>by
  rw[Zg,Qp,h.cell];simpa [Zaq]using hu⟩⟩
def Zcq(Q:List (List Rat))(xs:List Rat)(n:Nat):List (List Rat):=(Qu n).map λi=>Q[i]?.getD [] ++ [xs[i]?.getD 0]
section
variable{Q:List (List Rat)}{xs:List Rat}{n:Nat}
theorem Zlf:(Zcq Q xs n).length=n:=by simp[Zcq]
theorem Znc{i:Nat}(h:i<n):(Zcq Q xs n)[i]?.getD []=Q[i]?.getD [] ++ [xs[i]?.getD 0]:=by simp[Zcq,h]
theorem Zyk{i:Nat}(h:i<n):(Zcq Q xs n)[i]?=some (Q[i]?.getD [] ++ [xs[i]?.getD 0]):=by simp[Zcq,h]
theorem Zpo(hm:∀ i,i<n->(Q[i]?.getD []).length=n){i:Nat}(h:i<n):((Zcq Q xs n)[i]?.getD []).length=n+1:=by rw[Znc h,QA,hm i h];rfl
theorem Zy4(hm:∀ i,i<n->(Q[i]?.getD []).length=n){i k:Nat}(h:i<n)(hk:k<n):Zh (Zcq Q xs n) i k=Zh Q i k:=by
 unfold Zh;rw[Znc h,List.getElem?_append_left (by rw[hm i h];exact hk)]
theorem Zus(hm:∀ i,i<n->(Q[i]?.getD []).length=n){i:Nat}(h:i<n):Zh (Zcq Q xs n) i n=xs[i]?.getD 0:=by
 unfold Zh;rw[Znc h,List.getElem?_append_right (by rw[hm i h];exact Qb _),hm i h,Nat.sub_self];rfl
theorem Zvk(hm:∀ i,i<n->(Q[i]?.getD []).length=n){i k:Nat}(h:i<n)(hk:n<k):Zh (Zcq Q xs n) i k=0:=by
 unfold Zh;rw[Qe (by rw[Zpo hm h];omega)];rfl
end
section
variable{R:List (List Rat)}{n m:Nat}
theorem Zsv(hrow:∀ i,i<R.length->(R[i]?.getD []).length=m){r c i j:Nat}(hi:i<R.length)(hr:r<R.length)(hj:c<=j) :
    Zh (Zbq R r c) i j=if i<=r then Zh R i j else Zh R i j-Zh R i c/Zh R r c*Zh R r j:=by
 unfold Zbq;show ((List.map _ (Qu R.length))[i]?.getD [])[j]?.getD 0=_;rw[Qi,Qq hi];simp only[Qk,Qn];by_cases h1:i<=r;rw[Gx h1,Gx h1];rfl;rw[Gw h1,Gw h1];unfold Zok;rw[Qi];by_cases hjl:j<(R[i]?.getD []).length
 ·rw[Qq hjl]
  simp only[Qk,Qn];rw[Gw Gk];rfl
 rw[Qe (l:=Qu _) (by simpa using hjl)];simp only[Option.map_none,Option.getD_none];have e1:Zh R i j=0:=by unfold Zh;rw[Qe Gk];rfl
 have e2:Zh R r j=0:=by unfold Zh;rw[Qe (by rw[hrow i hi]at hjl;rw[hrow r hr];omega)];rfl
 rw[e1,e2];grind
theorem Zrt(hrow:∀ i,i<R.length->(R[i]?.getD []).length=m){r c i:Nat}(hi:i<R.length):((Zbq R r c)[i]?.getD []).length=m:=by
 rw[Zjg hi]
 split
 exact hrow i hi;unfold Zok;rw[Ql,List.length_range];exact hrow i hi
theorem Zk2(hrow:∀ i,i<R.length->(R[i]?.getD []).length=m):∀ t i,i<R.length->((Zft R t)[i]?.getD []).length=m
 | 0,i,hi=>hrow i hi
 | t+1,i,hi=>Zrt (R:=Zft R t) (λi hi=>Zk2 hrow t i (by rw[Zhw]at hi;exact hi)) (by rw[Zhw];exact hi)
theorem Ze3(hl:R.length=n)(hrow:∀ i,i<R.length->(R[i]?.getD []).length=m):∀ t,t<=n->∀ i k,i<n->min t i<=k->Zh (Zft R t) i k=Zn (Zh R) t i k
 | 0,_,_,_,_,_=>rfl
 | t+1,ht,i,k,hi,hk=>by
  show Zh (Zbq (Zft R t) t t) i k=if t<i then _ else _
  have hL:(Zft R t).length=n:=by rw[Zhw,hl]
  have hR:∀ i,i<(Zft R t).length->((Zft R t)[i]?.getD []).length=m:=λi hi=>Zk2 hrow t i (by rw[Zhw]at hi;exact hi);by_cases hti:t<i
  ·have e:t+1<=k:=Gk
   rw[Gx hti,Zsv hR (by rw[hL];exact hi) (by rw[hL];omega) Gk,Gw Gk,
    Ze3 hl hrow t Gk i k hi Gk,Ze3 hl hrow t Gk i t hi Gk,Ze3 hl hrow t Gk t t Gk Gk,Ze3 hl hrow t Gk t k Gk Gk]
  rw[Gw hti];have f:i<=k:=Gk
  have:Zh (Zbq (Zft R t) t t) i k=Zh (Zft R t) i k:=by
   unfold Zh;rw[Zjg (by rw[hL];exact hi),Gx Gk]
  rw[this];exact Ze3 hl hrow t Gk i k hi Gk
end
def SolvC(E X:Nat->Nat->Rat)(n:Nat):Prop:=
 (∀ i,i<n->X i n=upS E X i n n/E i i)/\(∀ i,SmN 300 300 (X i n))/\∀ i t,SmN 400 400 (upS E X i n t)
def Zm0(B0:Nat)(q:Rat)(ca al:Nat)(i:Nat)(v:Value)(w:World):Prop:=
 if i=ca then ∃ na A n c nb B m d,v=.agg #[.bool na,.slice A n c,.bool nb,.slice B m d]/\Fr w na A n c nb B m d q
 else if i=al then ∃ g,v=.pointer (some ⟨g,0,none⟩)/\B0<=g/\Blk w g 41 #[.bool false,.slice none 0 0,.bool false,.slice none 0 0]
 else True
theorem Ztr{B0:Nat}{q:Rat}{ca al i:Nat}{v:Value}{w w':World}(hb:Below w.heap.size w w')(h:Zm0 B0 q ca al i v w):Zm0 B0 q ca al i v w':=by
 unfold Zm0 at h ⊢
 split at h
 ·rename_i h1;rw[Gx h1]
  exact Fc
 rename_i h1;rw[Gw h1]
 split at h
 ·rename_i h4;rw[Gx h4]
  obtain⟨g,e,h5,h6⟩:=h;exact⟨g,e,h5,Zc hb h6⟩
 rename_i h4;rw[Gw h4];trivial
def FTail(t:TypeId)(w:World)(g n i:Nat)(x:Nat->Rat):Prop:=∃ es:List FE,Blk w g t (Z4 es)/\es.length=n/\∀ (j:Nat) (e:FE),i<=j->es[j]?=some e->e.in_ w/\e.q=x j
section
variable{t:TypeId}{w w':World}{g n i:Nat}{x:Nat->Rat}
theorem FTail.new(t:TypeId)(w:World)(n:Nat)(x:Nat->Rat):FTail t (w.alloc (.cells (Z4 (Qd n Zax)) t)) w.heap.size n n x:=
 ⟨_,Qo _ _ _,by simp,λj e h1 h2=>by rw[Qe (by simp;exact h1)]at h2;cases h2⟩
theorem FTail.below(h:FTail t w g n i x)(hb:Below w.heap.size w w'):FTail t w' g n i x:=by
 obtain⟨es,h1,h2,h3⟩:=h;exact⟨es,Zc hb h1,h2,λj e hj he=>⟨(h3 j e hj he).1.below hb,(h3 j e hj he).2⟩⟩
theorem FTail.at_(h:FTail t w g n i x){j:Nat}(hij:i<=j)(hj:j<n):∃ na A k c nb B m d,w.cell? ⟨g,j*4,none⟩=some (.bool na)/\w.cell? ⟨g,j*4+1,none⟩=some (.slice A k c)/\w.cell? ⟨g,j*4+2,none⟩=some (.bool nb)/\w.cell? ⟨g,j*4+3,none⟩=some (.slice B m d)/\Fr w na A k c nb B m d (x j):=by
 obtain⟨es,h1,h2,h3⟩:=h;have he:=Qg (l:=es) (i:=j) Gk;have hc:=Zdz he;obtain⟨h4,h5⟩:=h3 j _ hij he;unfold FE.in_ at h4;rw[h5]at h4;exact⟨_,_,_,_,_,_,_,_,by rw[h1.cell];exact hc.1,by rw[h1.cell];exact hc.2.1,by rw[h1.cell];exact hc.2.2.1,by rw[h1.cell];exact hc.2.2.2,h4⟩
theorem FTail.raw(h:FTail t w g n i x):FRaw t w g n:=by obtain⟨es,h1,h2,-⟩:=h;exact⟨es,h1,by omega⟩
theorem FTail.set_(h:FTail t w g n (i+1) x)(hi:i<n){na:Bool}{A:Option Addr}{k c:Nat}{nb:Bool}{B:Option Addr}{m d:Nat}(hf:Fr w na A k c nb B m d (x i)):FTail t (Zgf w g i na A k c nb B m d) g n i x:=by
 obtain⟨es,h1,h2,h3⟩:=h;have hb:=(((h1.set_ (i*4) (.bool na)).set_ (i*4+1) (.slice A k c)).set_ (i*4+2) (.bool nb)).set_ (i*4+3) (.slice B m d);have hs:=Zho (es:=es) (i:=i) ⟨na,A,k,c,nb,B,m,d,x i⟩ Gk;dsimp only at hs;rw[hs]at hb;have f:=Zca es;refine⟨_,hb,by rw[Qy];exact h2,λj e hj he=>?_⟩;rw[Qj]at he;by_cases hij:i=j
 ·subst hij
  rw[Gx rfl,Gx Gk]at he;cases he;exact⟨Zil hf h1 f,rfl⟩
 rw[Gw hij]at he;have:=h3 j e Gk he;exact⟨Zil this.1 h1 f,this.2⟩
theorem FTail.fl(h:FTail t w g n 0 x)(hm:n<=maxLen):FL w (some ⟨g,0,none⟩) n n ((Qu n).map x):=by
 obtain⟨es,h1,h2,h3⟩:=h;refine⟨es,h2,Qb _,hm,λe he=>?_,?_,λ_=>⟨g,0,rfl,λk e he=>?_⟩⟩
 ·obtain⟨j,hj,e2⟩:=Qr he
  exact(h3 j e (Qm _) (by rw[Qg hj,e2])).1
 ·apply QD
  intro j;rw[Qi,Qi];by_cases hj:j<n
  ·have he:=Qg (l:=es) (i:=j) Gk
   rw[he,Qq hj,Qk,Qk,(h3 j _ (Qm _) he).2]
  rw[Qe Gk,Qe (by simpa using hj)];rfl
 have hc:=Zdz he;exact⟨by rw[Qp,h1.cell];exact hc.1,by rw[Qp,h1.cell];exact hc.2.1,by rw[Qp,h1.cell];exact hc.2.2.1,by rw[Qp,h1.cell];exact hc.2.2.2⟩
end
theorem RowS.isSlC{t:TypeId}{w:World}{base:Nat}{v:Value}{rs:List RS}(h:RowS t w base v rs):∃ A n c,v=.slice A n c:=by
 exact Co
def Zxr(A X:Nat->Nat->Rat)(n:Nat)(w:World)(e:Ending)(w':World):Prop:=
 Below w.heap.size w w'/\((posP A n/\∃ B c,e=.returned (.tuple #[.slice B n c,.bool true])/\FL w' B n c ((Qu n).map λi=>X i n)) \/ (¬ posP A n/\e=.returned (.tuple #[.slice none 0 0,.bool false])))
theorem ID{G:Prop}(h:G:=by
 clear fp fD fC bJ;go_wp2_with fail;go_returns;exact⟨aH.out,.inr ⟨iK.out,rfl⟩⟩):G:=h
theorem Zqx(A0:Option Addr)(n c:Nat)(Q:List (List Rat))(Ax:Option Addr)(cx:Nat)(xs:List Rat)(w:World)(h:MFL w A0 n c Q)(hv:FL w Ax n cx xs)(hn0:0<n)(hn9:n<=100)(hm:∀ i,i<n->(Q[i]?.getD []).length=n)
    (hs:∀ t i k,t<=n->posP (Zh (Zcq Q xs n)) t->i<n->SmN 380 380 (Zn (Zh (Zcq Q xs n)) t i k)) (hl:∀ i k,k<=i->i<n->posP (Zh (Zcq Q xs n)) (k+1)->SmN 300 300 (lQ (Zh (Zcq Q xs n)) i k))
    (X:Nat->Nat->Rat) (hX:posP (Zh (Zcq Q xs n)) n->SolvC (λi j=>Zn (Zh (Zcq Q xs n)) i i j) X n) :
    Calls Tryz.prog 57 #[.slice A0 n c,.slice Ax n cx] w (Zxr (Zh (Zcq Q xs n)) X n w):=by
 obtain⟨iF,hi,l4,j7,k3⟩:=info_parts Ze0;obtain⟨iS,ki,H0,K0,L5⟩:=info_parts Zko;have hmx:=Gt;have C9:(35:TypeId)≠41:=Gj;have N2:=h.2.1;have K7:=h.2.2.1;unfold maxLen at K7;have y5:=hv.cap;unfold maxLen at y5;obtain⟨R,hR⟩:=Gz (Zcq Q xs n);have m0:Hid (R.length=n):=Zb (by rw[<- hR];exact Zlf);have j6:Hid (∀ i,i<R.length->(R[i]?.getD []).length=n+1):=Zb (λi hi=>by rw[<- hR]at hi ⊢;exact Zpo hm (by rw[Zlf]at hi;exact hi));have z4:Hid (∀ i,i<n->R[i]?=some (Q[i]?.getD [] ++ [xs[i]?.getD 0])):=Zb (λi hi=>by rw[<- hR];exact Zyk hi);rw[hR]at hs hl hX ⊢;obtain⟨AR,l9⟩:=Gz (Zh R);rw[l9]at hs hl hX ⊢;replace l9:=Zb l9;have hH:=Zb h;have K5:=Zb hv;replace hs:=Zb hs;replace hl:=Zb hl;replace hX:=Zb hX;replace hm:=Zb hm;clear h hv hR;go_in;go_wp2_with fail
 go_loopg [6,7] n (λk ov iv wr=>∃ (i:Nat) (L:List RF),i+k=n/\iv=.int .i64 i/\MatO 35 41 wr w.heap.size ov L/\Hid (L.map RF.q=R.take i)/\Below w.heap.size w wr)
 case atStart=>exact⟨0,[],by omega,rfl,MatO.nil _ _ _ _,Zb Gh,Qa _ _⟩
 case round =>
  obtain⟨i,L,L4,rfl,hM,hQ,hB⟩:=hrel
  have f6:L.length=i:=by
   have h1:(L.map RF.q).length=(R.take i).length:=by rw[hQ.out]
   rw[Ql,List.length_take,m0.out]at h1;omega
  cases gk with
  | succ j =>
   obtain rfl:j=n-(i+1):=Gk;have u:i<n:=Gk;have t1:decide ((i:Int)<(n:Int))=true:=Gv Gk;have bi:(i:Int)<(n:Int):=Gk;obtain⟨g,o,A1,n1,c1,rfl,k0,hF⟩:=hH.out.at_ u;have H8:n=n1:=by rw[<- hF.len];exact(hm.out i u).symm
   subst H8;obtain⟨gy,oy,xn,xA,xk,xc,xm,xB,xj,xd,rfl,⟨x0,x1,x2,x3⟩,y9⟩:=K5.out.at_ u;have J7:Hid (∀ s ∈ L,s.g<wr.heap.size):=Zb (λs hs=>(hM.2.1 s hs).1.1.lt);have e6:Hid ((Q[i]?.getD []).length=n):=Zb (hm.out i u);obtain⟨O6,ovn,ovc,rfl⟩:=hM.1.isSlC;replace hM:=Zb hM;replace hF:=Zb hF;replace y9:=Zb y9;have y0:=Za hB k0;have y1:=Za hB x0;have y2:=Za hB x1;have y3:=Za hB x2;have y4:=Za hB x3;go_wp2_with fail;obtain⟨X0,T⟩:=Gz wr.drew;have f5:Below wr.heap.size wr X0:=by rw[<- T];exact Zf (Qa _ _) 1
   have a2:Hid (∀ wx,Below w.heap.size w wx->wx.cell? ⟨g,o+i,none⟩=some (.slice A1 n c1)/\wx.cell? ⟨gy,oy+i*4,none⟩=some (.bool xn)/\wx.cell? ⟨gy,oy+i*4+1,none⟩=some (.slice xA xk xc)/\wx.cell? ⟨gy,oy+i*4+2,none⟩=some (.bool xm)/\wx.cell? ⟨gy,oy+i*4+3,none⟩=some (.slice xB xj xd)):=Zb (λwx f=>⟨Za f k0,Za f x0,Za f x1,Za f x2,Za f x3⟩);have F1:Below w.heap.size w X0:=Gs hB f5;refine wp_heldS [] hmx a2 (by rw[T];exact F1) (λhxs=>?_);rw[T];clear y0 y1 y2 y3 y4;refine Zj9 9 [0,2,3,4,5,7,8,9,10] rfl Gi (a2.out _ F1) ?_
   iterate 9 (refine tkA ?_;try simp only[Qc,Zhb,Zgo,Zg6,Gr,Gq,Gp])
   refine tk0 ?_;refine Zda (i:=1) (j:=11) rfl rfl Gi (λK hK=>?_) (λK hK=>?_)
   focus
    obtain⟨Y1,l8⟩:=Gz (X0.alloc (.cells #[] 41));obtain⟨e0,h5⟩:=Gz X0.heap.size;have E7:Below X0.heap.size X0 Y1:=by rw[<- l8];exact(Qa _ _).alloc (Qb _) _
    have D6:Blk Y1 e0 41 #[]:=by rw[<- l8,<- h5];exact Qo _ _ _
    have x4:wr.heap.size<=e0:=by rw[<- h5];exact f5.size
    have a3:=Gs f5 E7;have C2:Below w.heap.size w Y1:=Gs hB a3;have g8:OwnF 41 Y1 wr.heap.size (.slice (some ⟨e0,0,none⟩) 0 0) []:=⟨[],.inr ⟨e0,0,rfl,x4,Qm _,D6⟩,λe he=>(by cases he),rfl⟩;go_simp;(try rw[l8]);(try rw[h5]);refine hK.out _ _ (λ_=>a2.out _ C2) ?_;clear hK K l8 h5
    try simp only[Qc,Zhb,Zgo,Zg6]
    refine Zda (i:=6) (j:=11) rfl rfl Gi (λK hK=>?_) (λK hK=>?_)
    focus
     obtain⟨E9,B3,r6,u5,w7⟩:=(hF.out.below (Gs hB a3)).reads;rw[Gx Ge];refine Za4 _ (.tmp 24) (.tmp 28) 35 rfl wr.heap.size 41 iF Tryz.underlying35 hi l4 j7 k3 (.slice (some ⟨e0,0,none⟩) 0 0) [] rfl g8 _ _ _ _ E9 rfl B3 r6 u5 Gg a3.size ?_;intro L7 Y4 q7 E5 M8 M1;rw[Qz,w7]at q7;have g9:=a3.grown E5 a3.size (λk hk=>g8.row_ge k hk);have z9:Below w.heap.size w Y4:=Gs hB g9;refine hK.out _ _ (λ_=>a2.out _ z9) ?_;clear hK K
     try simp only[Qc,Zhb,Zgo,Zg6]
     refine wpAnyL_o 11 λK hK=>?_;obtain⟨Y5,n0⟩:=Gz (Y4.alloc (.cells #[.bool xn,.slice xA xk xc,.bool xm,.slice xB xj xd] 41));obtain⟨r9,g7⟩:=Gz Y4.heap.size;have r1:Below Y4.heap.size Y4 Y5:=by rw[<- n0];exact(Qa _ _).alloc (Qb _) _
     have C0:Blk Y5 r9 41 #[.bool xn,.slice xA xk xc,.bool xm,.slice xB xj xd]:=by rw[<- n0,<- g7];exact Qo _ _ _
     have L0:wr.heap.size<=r9:=by rw[<- g7];exact g9.size
     have r3:=Gs g9 r1;have z7:Below w.heap.size w Y5:=Gs hB r3;have m3:=q7.kept r1;go_simp;(try rw[n0]);(try rw[g7]);refine hK.out _ _ (λ_=>a2.out _ z7) ?_;clear hK K n0 g7
     try simp only[Qc,Zhb,Zgo,Zg6]
     have rL:=r3;have oL:=m3;have bL:=C0;obtain⟨vL,rfl⟩:∃ x:Value,x=L7:=⟨_,rfl⟩;obtain⟨gL,rfl⟩:∃ x:Nat,x=r9:=⟨_,rfl⟩;obtain⟨WL,rfl⟩:=Gy Y5
    rotate_left 1
    focus
     obtain⟨Y8,m6⟩:=Gz (Y1.alloc (.cells #[.bool xn,.slice xA xk xc,.bool xm,.slice xB xj xd] 41));obtain⟨i3,d8⟩:=Gz Y1.heap.size;have q8:Below Y1.heap.size Y1 Y8:=by rw[<- m6];exact(Qa _ _).alloc (Qb _) _
     have k6:Blk Y8 i3 41 #[.bool xn,.slice xA xk xc,.bool xm,.slice xB xj xd]:=by rw[<- m6,<- d8];exact Qo _ _ _
     have J3:wr.heap.size<=i3:=by rw[<- d8];exact a3.size
     have d7:=Gs a3 q8;have E1:Below w.heap.size w Y8:=Gs hB d7;have x9:Hid (e0<i3):=Zb (by rw[<- d8];have h9:=g8.blt e0 (by simp[Value.ownBlock]);exact h9);have h6:=g8.kept q8;go_simp;(try rw[m6]);(try rw[d8]);refine hK.out _ _ (λ_=>a2.out _ E1) ?_;clear hK K m6 d8
     try simp only[Qc,Zhb,Zgo,Zg6]
     refine wpAnyL_o 6 λK hK=>?_;obtain⟨w6,y8,o7,n6,o9⟩:=(hF.out.below (Gs hB d7)).reads;rw[Gx Ge];refine Za4 _ (.tmp 24) (.tmp 28) 35 rfl wr.heap.size 41 iF Tryz.underlying35 hi l4 j7 k3 (.slice (some ⟨e0,0,none⟩) 0 0) [] rfl h6 _ _ _ _ w6 rfl y8 o7 n6 Gg d7.size ?_;intro C4 x6 i5 k8 J6 F7;rw[Qz,o9]at i5;have l2:=d7.grown k8 d7.size (λk hk=>h6.row_ge k hk);have t7:Below w.heap.size w x6:=Gs hB l2;have i0:Blk x6 i3 41 #[.bool xn,.slice xA xk xc,.bool xm,.slice xB xj xd]:=(k8.block i3 k6.lt (λe=>by simp[Value.ownBlock]at e;have:=x9.out;omega)).trans k6;refine hK.out _ _ (λ_=>a2.out _ t7) ?_;clear hK K
     try simp only[Qc,Zhb,Zgo,Zg6]
     have rL:=l2;have oL:=i5;have bL:=i0;obtain⟨vL,rfl⟩:∃ x:Value,x=C4:=⟨_,rfl⟩;obtain⟨gL,rfl⟩:∃ x:Nat,x=i3:=⟨_,rfl⟩;obtain⟨WL,rfl⟩:=Gy x6
   rotate_left 2
   focus
    obtain⟨f9,h3⟩:=Gz (X0.alloc (.cells #[.bool xn,.slice xA xk xc,.bool xm,.slice xB xj xd] 41));obtain⟨b6,b8⟩:=Gz X0.heap.size;have u8:Below X0.heap.size X0 f9:=by rw[<- h3];exact(Qa _ _).alloc (Qb _) _
    have j3:Blk f9 b6 41 #[.bool xn,.slice xA xk xc,.bool xm,.slice xB xj xd]:=by rw[<- h3,<- b8];exact Qo _ _ _
    have F6:wr.heap.size<=b6:=by rw[<- b8];exact f5.size
    have b7:=Gs f5 u8;have t0:Below w.heap.size w f9:=Gs hB b7;go_simp;(try rw[h3]);(try rw[b8]);refine hK.out _ _ (λ_=>a2.out _ t0) ?_;clear hK K h3 b8
    try simp only[Qc,Zhb,Zgo,Zg6]
    refine wpAnyL_o 1 λK hK=>?_;obtain⟨o8,h2⟩:=Gz (f9.alloc (.cells #[] 41));obtain⟨b5,a9⟩:=Gz f9.heap.size;have j9:Below f9.heap.size f9 o8:=by rw[<- h2];exact(Qa _ _).alloc (Qb _) _
    have w0:Blk o8 b5 41 #[]:=by rw[<- h2,<- a9];exact Qo _ _ _
    have p5:wr.heap.size<=b5:=by rw[<- a9];exact b7.size
    have b0:=Gs b7 j9;have w8:Below w.heap.size w o8:=Gs hB b0;have x9:Hid (b6<b5):=Zb (by rw[<- a9];exact j3.lt);have b4:=Zc j9 j3;have l3:OwnF 41 o8 wr.heap.size (.slice (some ⟨b5,0,none⟩) 0 0) []:=⟨[],.inr ⟨b5,0,rfl,p5,Qm _,w0⟩,λe he=>(by cases he),rfl⟩;go_simp;(try rw[h2]);(try rw[a9]);refine hK.out _ _ (λ_=>a2.out _ w8) ?_;clear hK K h2 a9
    try simp only[Qc,Zhb,Zgo,Zg6]
    refine wpAnyL_o 6 λK hK=>?_;obtain⟨s9,t8,p8,p9,p4⟩:=(hF.out.below (Gs hB b0)).reads;rw[Gx Ge];refine Za4 _ (.tmp 24) (.tmp 28) 35 rfl wr.heap.size 41 iF Tryz.underlying35 hi l4 j7 k3 (.slice (some ⟨b5,0,none⟩) 0 0) [] rfl l3 _ _ _ _ s9 rfl t8 p8 p9 Gg b0.size ?_;intro B8 y6 k9 l6 H9 F5;rw[Qz,p4]at k9;have k7:=b0.grown l6 b0.size (λk hk=>l3.row_ge k hk);have r7:Below w.heap.size w y6:=Gs hB k7;have b9:Blk y6 b6 41 #[.bool xn,.slice xA xk xc,.bool xm,.slice xB xj xd]:=(l6.block b6 b4.lt (λe=>by simp[Value.ownBlock]at e;have:=x9.out;omega)).trans b4;refine hK.out _ _ (λ_=>a2.out _ r7) ?_;clear hK K
    try simp only[Qc,Zhb,Zgo,Zg6]
    have rL:=k7;have oL:=k9;have bL:=b9;obtain⟨vL,rfl⟩:∃ x:Value,x=B8:=⟨_,rfl⟩;obtain⟨gL,rfl⟩:∃ x:Nat,x=b6:=⟨_,rfl⟩;obtain⟨WL,rfl⟩:=Gy y6
   all_goals
    refine wpAnyL_o 12 λK hK=>?_;rw[Gx Ge];obtain⟨zA,zc,A9,H3⟩:=oL.fl;rw[e6.out]at A9 H3;subst A9;refine Za4 _ (.tmp 29) (.tmp 34) 35 rfl wr.heap.size 41 iF Tryz.underlying35 hi l4 j7 k3 (.slice zA n zc) _ rfl oL _ (some ⟨gL,0,none⟩) 1 1 [⟨xn,xA,xk,xc,xm,xB,xj,xd,xs[i]?.getD 0⟩] rfl (Zb7 _ bL) rfl (by intro e he;rw[QB]at he;subst he;exact y9.out.below (Gs hB rL)) (by rw[e6.out];omega) rL.size ?_;intro vQ i4 l1 s5 I0 F4;simp only[Qt,Qv]at l1;have g6:=rL.grown s5 rL.size (λk hk=>oL.row_ge k hk);have u4:Below w.heap.size w i4:=Gs hB g6;rcases l1.fown with ⟨-,t9⟩|⟨g2,c2,rfl,C3,r0,C5,H6⟩;simp at t9;have y7:(Q[i]?.getD [] ++ [xs[i]?.getD 0]).length=n+1:=by rw[QA,e6.out];rfl
    rw[y7]at r0 ⊢;refine hK.out _ _ (λ_=>a2.out _ u4) ?_;clear hK K
    try simp only[Qc,Zhb,Zgo,Zg6]
    obtain⟨Z1,n8⟩:∃ Z,i4.alloc (.cells #[.slice (some ⟨g2,0,none⟩) (n+1) c2] 35)=Z:=⟨_,rfl⟩;obtain⟨gz,u7⟩:=Gz i4.heap.size;have z6:Below i4.heap.size i4 Z1:=by rw[<- n8];exact(Qa _ _).alloc (Qb _) _
    have G1:Blk Z1 gz 35 #[.slice (some ⟨g2,0,none⟩) (n+1) c2]:=by rw[<- n8,<- u7];exact Qo _ _ _
    have E4:=Gs g6 z6;have o6:Below w.heap.size w Z1:=Gs hB E4;refine wpAnyL_o 13 λK hK=>?_;go_simp;(try rw[n8]);(try rw[u7]);refine hK.out _ _ (λ_=>a2.out _ o6) ?_;clear hK K n8 u7
    try simp only[Qc,Zhb,Zgo,Zg6]
    have v7:=hM.out.kept E4;have J2:=H6.below z6;have H1:(L.map RF.rs).length+1<=1000:=by rw[Ql];omega
    refine wpAnyL_o 14 λK hK=>?_;rw[Gx Ge];refine Zay _ (.tmp 23) (.tmp 36) 25 rfl w.heap.size 35 iS Tryz.underlying25 ki H0 K0 L5 _ (L.map RF.rs) rfl v7.1 _ (some ⟨gz,0,none⟩) 1 1 [⟨some ⟨g2,0,none⟩,n+1,c2⟩] rfl (Zyp G1) rfl H1 o6.size ?_;intro v5 w5 M2 F3 K9;have s6:=o6.grown F3 o6.size (λk hk=>v7.1.row_ge k hk);have C7:∀ s ∈ L,s.g≠g2:=λs hs=>by have:=J7.out s hs;omega
    have n7:=Zb (v7.snoc C9 (r:=⟨g2,c2,Q[i]?.getD [] ++ [xs[i]?.getD 0]⟩) ⟨J2,by rw[y7];exact r0,C5⟩ (Qw hB.size C3) C7 (by simp only[RF.rs,y7];exact M2) F3 K9);have L3:Hid (L.map RF.q ++ [Q[i]?.getD [] ++ [xs[i]?.getD 0]]=R.take (i+1)):=Zb (by rw[hQ.out,List.take_add_one,z4.out i u];rfl);refine hK.out _ _ (λ_=>a2.out _ s6) ?_;clear hK K
    try simp only[Qc,Zhb,Zgo,Zg6]
    (refine Zj (i:=15) (v:=?_) rfl Gi Gi Gi Gi (Or.inl ⟨by kernel_rfl,?_⟩) (λ_=>(a2.out _ s6)) ?_;rotate_left;(· intro W2 _;go_simp;try with_reducible rfl);try simp only[Qc,Zhb,Zgo,Zg6,Gr,Gq,Gp])
    refine wpAnyL_fin ?_;go_wp2_with fail
    go_roundg (n-(i+1))
    case measure=>omega
    case rel=>exact⟨i+1,_,by omega,by go_num,n7.out,Zb (by rw[List.map_append];exact L3.out),s6⟩
  | zero =>
   obtain rfl:n=i:=Gk;have t1:decide ((n:Int)<(n:Int))=false:=Gh;have A3:L.map RF.q=R:=by rw[hQ.out];exact List.take_of_length_le (by rw[m0.out];exact Qb _)
   obtain⟨go,cap,rfl,H7,M0,O8,g4,d6⟩:=hM.mat C9 (λe=>by rw[e]at f6;simp at f6;omega);rw[f6]at H7;simp only[f6];unfold maxLen at M0
   have J1:Hid (∀ k,k ∈ L.map RF.g->w.heap.size<=k):=Zb (λk hk=>by
    obtain⟨r,hr,rfl⟩:=List.mem_map.1 hk;exact d6 r hr)
   have M9:Hid (go ∉ L.map RF.g):=Zb (List.nodup_cons.1 g4.2.2).1;obtain⟨w1,rfl⟩:=Gy wr;have I6:Hid (∀ k,k ∈ L.map RF.g->∃ t cs,Blk w1 k t cs/\NoLimb cs):=Zb (λk hk=>g4.boxes k (.inr hk));have N5:Hid (go<w1.heap.size):=Zb (by obtain⟨t,cs,hb,-⟩:=g4.boxes go (.inl rfl);exact hb.lt);have A6:=Zb A3;replace g4:=Zb g4;replace f6:=Zb f6;replace hB:=Zb hB;clear hM hQ A3 d6;go_wp2_with fail
   go_loopg [9] n (λk iv wr=>∃ (p:Nat) (L1:List RF),p+k=n/\iv=.int .i64 p/\MatB 35 41 wr go L1/\Hid (L1.length=n)/\Hid (L1.map RF.g=L.map RF.g)/\Hid (L1.map RF.c=L.map RF.c)/\Hid (L1.map RF.q=Zft R p)/\Hid (posP AR p)/\Kept (λg=>g ∈ L.map RF.g) w1 wr)
   case atStart=>exact⟨0,L,by omega,rfl,g4.out,f6,Zb rfl,Zb rfl,Zb A6.out,Zb (λt ht=>by omega),Qs _ _⟩
   case round =>
    clear g4;obtain⟨wp_,rfl⟩:=Gy wr;obtain⟨p,L1,P0,rfl,hM,d0,K2,D4,w9,a0,hK⟩:=hrel;have aH:Hid (Below w.heap.size w wp_):=Zb (hB.out.trans (hK.to_below J1.out hB.out.size))
    have hE:Hid (∀ i k,i<n->min p i<=k->(Zdf L1 i)[k]?.getD 0=Zn AR p i k):=Zb (λi k hi hk=>by
     rw[<- Zkn,w9.out,<- l9.out];exact Ze3 m0.out j6.out p Gk i k hi hk)
    have a5:Hid (∀ i,i<n->(Zdf L1 i).length=n+1):=Zb (λi hi=>by
     rw[Zn3,w9.out];exact Zk2 j6.out p i (by rw[m0.out];exact hi))
    cases gk with
    | zero =>
     obtain rfl:n=p:=Gk;have t2:decide ((n:Int)<(n:Int))=false:=Gh;have I3:Hid (∀ i k,i<n->i<=k->(Zdf L1 i)[k]?.getD 0=Zn AR i i k):=Zb (λi k hi hk=>by rw[hE.out i k hi Gk,Zm3 Gk]);have T:=hX.out a0.out;obtain⟨E,i2⟩:∃ E:Nat->Nat->Rat,(λi j=>Zn AR i i j)=E:=⟨_,rfl⟩;rw[i2]at T;have u9:Hid (∀ i k,i<n->i<=k->(Zdf L1 i)[k]?.getD 0=E i k):=Zb (λi k hi hk=>by rw[I3.out i k hi hk,<- i2]);have t6:Hid (∀ i k,i<n->SmN 380 380 (E i k)):=Zb (λi k hi=>by rw[<- i2];exact hs.out i i k Gk (a0.out.mono Gk) hi);have G5:Hid (∀ i,i<n->E i i≠0):=Zb (λi hi=>by rw[<- i2];exact a0.out.ne hi);obtain⟨e1,e2,e3⟩:=T;replace e1:=Zb e1;replace e2:=Zb e2;replace e3:=Zb e3;replace i2:=Zb i2;have G8:=Zu7 (P:=Tryz.prog) 35 41 Tryz.underlying35 hi l4 j7 k3 (n:Int) n rfl Gk wp_;obtain⟨gO,j0⟩:=Gz wp_.heap.size;obtain⟨X2,v6,u6,-,-,-,sX⟩:=Zs 41 (Z4 (Qd n Zax)) (Qa wp_.heap.size wp_) (Qb _);have hO:FTail 41 X2 gO n n (λi=>X i n):=by rw[<- v6,<- j0];exact FTail.new _ _ _ _
     have h8:=Zb (hM.below u6);have D9:Hid (Below w.heap.size w X2):=Gn aH u6;have C1:Hid (w.heap.size<=gO):=Zb (by rw[<- j0];exact aH.out.size)
     have D7:Hid (go≠gO):=Zb (by
      obtain⟨t,cs,hb,-⟩:=hM.boxes go (.inl rfl);have:=hb.lt;omega)
     have z8:Hid (∀ r ∈ L1,r.g≠gO):=Zb (λr hr=>by
      obtain⟨t,cs,hb,-⟩:=hM.boxes r.g (.inr (List.mem_map.2 ⟨r,hr,rfl⟩));have:=hb.lt;omega)
     have P5:Hid (∃ t cs,Blk X2 gO t cs/\NoLimb cs):=Zb hO.raw.box;have G0:IntKind.i64.wrap ((n:Int)-1)=(n:Int)-1:=by rw[IntKind.wrap_i64];omega
     replace hO:=Zb hO;replace hK:=Zb hK;clear hM u6 sX;go_wp2_with fail;(try rw[v6]);(try rw[j0]);clear G8 v6;replace j0:=Zb j0
     go_loopg [14] n (λk iv wr=>iv=.int .i64 ((k:Int)-1)/\k<=n/\MatB 35 41 wr go L1/\FTail 41 wr gO n k (λi=>X i n)/\Kept (λg=>g=gO) X2 wr)
     case atStart=>exact⟨by go_num,Qb _,h8.out,hO.out,Qs _ _⟩
     case round =>
      clear h8 hO G0;obtain⟨f8,rfl⟩:=Gy wr;obtain⟨rfl,O1,hM,hO,a7⟩:=hrel;cases gk with
      | zero =>
       have t3:decide ((0:Int)<=((0:Nat):Int)-1)=false:=Gj;have D0:decide ((0:Int) <= -1)=false:=Gj;have K3:=Zb (hO.fl (by unfold maxLen;omega));have G2:Hid (Below w.heap.size w f8):=Zb (D9.out.trans (a7.to_below (λk e=>by have:=C1.out;omega) D9.out.size));have U:=a0;replace hM:=Zb hM;replace a7:=Zb a7;replace hO:=Zb hO;go_wp2_with fail;go_returns;exact⟨G2.out,.inl ⟨U.out,_,_,rfl,K3.out⟩⟩
      | succ i =>
       have e9:((i+1:Nat):Int)-1=(i:Int):=Gk;rw[e9];have u:i<n:=Gk;have t3:decide ((0:Int)<=(i:Int))=true:=Gv Gk;have bi:(i:Int)<(n:Int):=Gk;have bnn:(n:Int)<((n+1:Nat):Int):=Gk;have M6:(n:Int)<(n:Int)+1:=Gk;obtain⟨ri,O⟩:=Zb0 (L:=L1) (i:=i) (by rw[d0.out];exact u);have b1:ri.q=Zdf L1 i:=(Zgl O).symm;have c7:ri.q.length=n+1:=by rw[b1];exact a5.out i u
       obtain⟨ci,zi⟩:=hM.cell O;obtain⟨fi,x7,r8⟩:=hM.row O;rw[c7]at ci x7;unfold maxLen at r8;obtain⟨xn,xA,xk,xc,xm,xB,xj,xd,p0,p1,p2,p3,bJ⟩:=fi.at_ (i:=n) (by rw[c7];omega);rw[b1,u9.out i n u Gk]at bJ;obtain⟨V1,H2,i8,a1,s1⟩:=Zan f8 41 #[.bool false,.slice none 0 0,.bool false,.slice none 0 0];obtain⟨gs,d6⟩:=Gz f8.heap.size;rw[d6]at a1 s1;obtain⟨u0,u1,u2,u3,v0,v1,v2,v3⟩:=a1.four;obtain⟨W4,D5,a4,D2,s4⟩:=Za0 xn xA xk xc xm xB xj xd a1;have e7:Below f8.heap.size f8 W4:=i8.trans (D2.to_below (λk e=>by omega) i8.size);have I5:Hid (W4.heap.size=gs+1):=Zb (by rw[s4,s1]);have z5:=Zb (bJ.below e7);have P2:=Zb (hM.below e7);have O2:=Zb (hO.below e7);have M5:Hid (Kept (λg=>g=gO) X2 W4):=Zb (a7.below e7);have I8:Hid (upS E X i n (i+1)=E i n):=Zb (Ztf _ _ _ _ _ (Qb _));have K6:IntKind.i64.wrap ((i:Int)+1)=((i+1:Nat):Int):=by rw[IntKind.wrap_i64];omega
       have N1:IntKind.i64.wrap ((i:Int)-1)=(i:Int)-1:=by rw[IntKind.wrap_i64];omega
       have M7:Hid (gO<gs):=Zb (by have:=hO.raw.lt;omega);replace e7:=Zb e7;replace a4:=Zb a4;replace hM:=Zb hM;replace hO:=Zb hO;replace a7:=Zb a7;clear bJ i8 D2 s1 s4 fi b1;go_wp2_with fail;(try rw[d6]);(try rw[D5]);clear u0 u1 u2 u3 v0 v1 v2 v3 a1 H2 D5 p0 p1 p2 p3 ci zi;replace d6:=Zb d6
       go_loopg [16] (n-(i+1)) (λk kv wr=>∃ (t:Nat) (sn:Bool) (sA:Option Addr) (sk sc:Nat) (sm:Bool) (sB:Option Addr) (sj sd:Nat),t+k=n/\kv=.int .i64 t/\i+1<=t/\Blk wr gs 41 #[.bool sn,.slice sA sk sc,.bool sm,.slice sB sj sd]/\Hid (Fr wr sn sA sk sc sm sB sj sd (upS E X i n t))/\Kept (λg=>g=gs) W4 wr)
       case atStart=>exact⟨i+1,_,_,_,_,_,_,_,_,by omega,by go_num,Qb _,a4.out,Zb (by rw[I8.out];exact z5.out),Qs _ _⟩
       case round =>
        clear a4 z5 K6;obtain⟨wj,rfl⟩:=Gy wr;obtain⟨t,sn,sA,sk,sc,sm,sB,sj,sd,N9,rfl,K1,C8,B6,E6⟩:=hrel;have N0:=I5.out;have N3:=d6.out;have p6:Hid (Below f8.heap.size f8 wj):=Zb (e7.out.trans (E6.to_below (λk e=>by omega) Gk));have i1:=hM.out.below p6.out;have b3:=hO.out.below p6.out;obtain⟨ci,zi⟩:=i1.cell O;obtain⟨fi,-,-⟩:=i1.row O;rw[c7]at ci;have b1:ri.q=Zdf L1 i:=(Zgl O).symm;obtain⟨s0,s1,s2,s3,y0,y1,y2,y3⟩:=C8.four;cases gk with
        | succ k' =>
         obtain rfl:k'=n-(t+1):=Gk;have F9:t<n:=Gk;have t4:decide ((t:Int)<(n:Int))=true:=Gv Gk;have bt:(t:Int)<(n:Int):=Gk;have O0:(t:Int)<((n+1:Nat):Int):=Gk;have P3:(t:Int)<(n:Int)+1:=Gk;obtain⟨an,aA,ak,ac,am,aB,aj,ad,p0,p1,p2,p3,i9⟩:=fi.at_ (i:=t) (by rw[c7];omega);rw[b1,u9.out i t u Gk]at i9;obtain⟨on_,oA,ok,oc,om,oB,oj,od,o0,o1,o2,o3,L9⟩:=b3.at_ (j:=t) K1 F9;have sa:=(t6.out i t u).sm (i:=380) Gj Gj;have sx:=(e2.out t).sm (i:=300) Gj Gj;have sp:Sm (E i t*X t n):=((t6.out i t u).mulN (e2.out t)).sm Gj Gj;have su:=(e3.out i t).sm (i:=400) Gj Gj;clear fi i1 b3;go_wp2_with fail;obtain⟨X0,T⟩:=Gz wj.drew;have I:Below wj.heap.size wj X0:=by rw[<- T];exact Zf (Qa _ _) 1
         have y:Hid (∀ wx,Below wj.heap.size wj wx->wx.cell? ⟨gs,0,none⟩=some (.bool sn)/\wx.cell? ⟨gs,1,none⟩=some (.slice sA sk sc)/\wx.cell? ⟨gs,2,none⟩=some (.bool sm)/\wx.cell? ⟨gs,3,none⟩=some (.slice sB sj sd)/\wx.cell? ⟨go,i,none⟩=some (.slice (some ⟨ri.g,0,none⟩) (n+1) ri.c)/\wx.cell? ⟨ri.g,t*4,none⟩=some (.bool an)/\wx.cell? ⟨ri.g,t*4+1,none⟩=some (.slice aA ak ac)/\wx.cell? ⟨ri.g,t*4+2,none⟩=some (.bool am)/\wx.cell? ⟨ri.g,t*4+3,none⟩=some (.slice aB aj ad)/\wx.cell? ⟨gO,t*4,none⟩=some (.bool on_)/\wx.cell? ⟨gO,t*4+1,none⟩=some (.slice oA ok oc)/\wx.cell? ⟨gO,t*4+2,none⟩=some (.bool om)/\wx.cell? ⟨gO,t*4+3,none⟩=some (.slice oB oj od)):=Zb (λwx f=>⟨Za f s0,Za f s1,Za f s2,Za f s3,Za f ci,Za f p0,Za f p1,Za f p2,Za f p3,Za f o0,Za f o1,Za f o2,Za f o3⟩);refine wp_heldS [14] hmx y (by rw[T];exact I) (λhxs=>?_);rw[T];refine Zj9 12 [0,1,2,3,4,5,6,7,8,9,10,11] rfl Gi (y.out _ I) ?_
         iterate 12 (refine tkA ?_;try simp only[Qc,Zhb,Zgo,Zg6,Gr,Gq,Gp])
         refine tk0 ?_;refine wpAnyL_o 12 λK hK=>?_;go_simp;refine(Zlr an aA ak ac am aB aj ad on_ oA ok oc om oB oj od _ _ X0 (i9.below I) (L9.below I) sa sx).mono ?_;rintro e e5 ⟨d9,yn,yA,yk,yc,ym,yB,yj,yd,rfl,hy⟩;have C:=Gs I d9;refine hK.out _ _ (λ_=>y.out _ C) ?_;clear hK K
         try simp only[Qc,Zhb,Zgo,Zg6]
         refine wpAnyL_o 13 λK hK=>?_;go_simp;refine(Zlw sn sA sk sc sm sB sj sd yn yA yk yc ym yB yj yd _ _ e5 (B6.out.below C) hy su sp).mono ?_;rintro e F2 ⟨l5,zn,zA,zk,zc,zm,zB,zj,zd,rfl,hz⟩;have J:=Gs C l5;refine hK.out _ _ (λ_=>y.out _ J) ?_;clear hK K
         try simp only[Qc,Zhb,Zgo,Zg6]
         have m7:=Zc J C8;obtain⟨f0,f1,f2,f3,G9,I7,G7,K4⟩:=m7.four;obtain⟨W7,E8,p7,w4,s7⟩:=Za0 zn zA zk zc zm zB zj zd m7;have I9:=Zb (hz.keptN w4 m7 (Zbh _ _ _ _ _ _ _ _));have J9:Hid (Kept (λg=>g=gs) W4 W7):=Zb ((E6.below J).trans w4);replace p7:=Zb p7;clear w4 hz hy;refine Zv (i:=14) rfl Gi Gi (λK hK=>?_);go_simp;(try rw[E8]);refine hK.out _ _ ?_;clear hK K
         try simp only[Qc,Zhb,Zgo,Zg6]
         refine wpAnyL_fin ?_;clear E8 f0 f1 f2 f3 G9 I7 G7 K4 m7 y hxs I J T s0 s1 s2 s3 p0 p1 p2 p3 o0 o1 o2 o3;have J4:Hid (Fr W7 zn zA zk zc zm zB zj zd (upS E X i n (t+1))):=Zb (by rw[Zrj _ _ Gk];exact I9.out);go_wp2_with fail
         go_roundg (n-(t+1))
         case measure=>omega
         case rel=>exact⟨t+1,_,_,_,_,_,_,_,_,by omega,by go_num,by omega,p7.out,J4,J9.out⟩
        | zero =>
         obtain rfl:n=t:=Gk;have t4:decide ((n:Int)<(n:Int))=false:=Gh;have P6:(i:Int)<((n+1:Nat):Int):=Gk;have N7:(i:Int)<(n:Int)+1:=Gk;obtain⟨an,aA,ak,ac,am,aB,aj,ad,p0,p1,p2,p3,i9⟩:=fi.at_ (i:=i) (by rw[c7];omega);rw[b1,u9.out i i u Gk]at i9;obtain⟨on_,oA,ok,oc,om,oB,oj,od,o0,o1,o2,o3⟩:=b3.raw.cells u;have E0:=b3.raw.frozen (i*4);have D3:=b3.raw.frozen (i*4+1);have A8:=b3.raw.frozen (i*4+2);have E3:=b3.raw.frozen (i*4+3);have sa:=(t6.out i i u).sm (i:=380) Gj Gj;have su:=(e3.out i n).sm (i:=400) Gj Gj;replace i1:=Zb i1;replace b3:=Zb b3;clear fi;go_wp2_with fail;obtain⟨X0,T⟩:=Gz wj.drew;have I:Below wj.heap.size wj X0:=by rw[<- T];exact Zf (Qa _ _) 1
         have y:Hid (∀ wx,Below wj.heap.size wj wx->wx.cell? ⟨gs,0,none⟩=some (.bool sn)/\wx.cell? ⟨gs,1,none⟩=some (.slice sA sk sc)/\wx.cell? ⟨gs,2,none⟩=some (.bool sm)/\wx.cell? ⟨gs,3,none⟩=some (.slice sB sj sd)/\wx.cell? ⟨go,i,none⟩=some (.slice (some ⟨ri.g,0,none⟩) (n+1) ri.c)/\wx.cell? ⟨ri.g,i*4,none⟩=some (.bool an)/\wx.cell? ⟨ri.g,i*4+1,none⟩=some (.slice aA ak ac)/\wx.cell? ⟨ri.g,i*4+2,none⟩=some (.bool am)/\wx.cell? ⟨ri.g,i*4+3,none⟩=some (.slice aB aj ad)):=Zb (λwx f=>⟨Za f s0,Za f s1,Za f s2,Za f s3,Za f ci,Za f p0,Za f p1,Za f p2,Za f p3⟩);refine wp_heldS [12] hmx y (by rw[T];exact I) (λhxs=>?_);rw[T];refine Zj9 10 [0,1,2,3,4,5,6,7,8,9] rfl Gi (y.out _ I) ?_
         iterate 10 (refine tkA ?_;try simp only[Qc,Zhb,Zgo,Zg6,Gr,Gq,Gp])
         refine tk0 ?_;refine wpAnyL_o 10 λK hK=>?_;go_simp;refine(Zmi sn sA sk sc sm sB sj sd an aA ak ac am aB aj ad _ _ X0 (B6.out.below I) (i9.below I) su sa (G5.out i u)).mono ?_;rintro e e5 ⟨d9,zn,zA,zk,zc,zm,zB,zj,zd,rfl,hz⟩;have C:=Gs I d9;refine hK.out _ _ (λ_=>y.out _ C) ?_;clear hK K
         try simp only[Qc,Zhb,Zgo,Zg6]
         refine Zgp 1 [11] rfl Gi (y.out _ C) ?_
         (refine tkA ?_;try simp only[Qc,Zhb,Zgo,Zg6,Gr,Gq,Gp])
         refine tk0 ?_;have x8:=b3.out.below C;have B7:=i1.out.below C;have I4:Hid (upS E X i n n/E i i=X i n):=Zb (e1.out i u).symm;rw[I4.out]at hz;obtain⟨Z9,d3⟩:=Gz (Zgf e5 gO i zn zA zk zc zm zB zj zd);have a8:=d3;unfold Zgf at a8;have s8:Kept (λg=>g=gO) e5 Z9:=by rw[<- d3];exact Zpt (Qs _ _) (.inl rfl)
         have G3:Hid (FTail 41 Z9 gO n i (λi=>X i n)):=Zb (by rw[<- d3];exact x8.set_ u hz);have J8:∀ k,k=gO->∃ t cs,Blk e5 k t cs/\NoLimb cs:=λk hk=>by rw[hk];exact x8.raw.box
         have w3:Hid (MatB 35 41 Z9 go L1):=Zb (B7.keptG s8 D7.out (λr hr=>z8.out r hr) J8);have v8:Hid (Kept (λg=>g=gO) X2 Z9):=Zb ((a7.out.below (Gs p6.out C)).trans s8);have f0:=Zl C o0 E0;have f1:=Zl C o1 D3;have f2:=Zl C o2 A8;have f3:=Zl C o3 E3;have g0:=Za C o0;have g1:=Za C o1;have g2:=Za C o2;have g3:=Za C o3;clear x8 B7 d3 s8 hz;refine Zv (i:=12) rfl Gi Gi (λK hK=>?_);go_simp;(try rw[a8]);refine hK.out _ _ ?_;clear hK K
         try simp only[Qc,Zhb,Zgo,Zg6]
         refine wpAnyL_fin ?_;clear a8 f0 f1 f2 f3 g0 g1 g2 g3 C I y hxs T s0 s1 s2 s3 p0 p1 p2 p3 o0 o1 o2 o3 E0 D3 A8 E3;go_wp2_with fail
         go_roundg i
         case measure=>omega
         case rel=>exact⟨by go_num,by omega,w3.out,G3.out,v8.out⟩
    | succ j =>
     obtain rfl:j=n-(p+1):=Gk;have U:p<n:=Gk;have t2:decide ((p:Int)<(n:Int))=true:=Gv Gk;have bp:(p:Int)<(n:Int):=Gk;have P7:(p:Int)<(n:Int)+1:=Gk;have bpn:(p:Int)<((n+1:Nat):Int):=Gk;obtain⟨rp,w2⟩:=Zb0 (L:=L1) (i:=p) (by rw[d0.out];exact U);have fD:rp.q=Zdf L1 p:=(Zgl w2).symm;have fC:rp.q.length=n+1:=by rw[fD];exact a5.out p U
     obtain⟨cp,zp⟩:=hM.cell w2;obtain⟨fp,J5,I2⟩:=hM.row w2;rw[fC]at cp J5;unfold maxLen at I2;obtain⟨n1,A1,k1,c1,m1,B1,j1,d1,p0,p1,p2,p3,bJ⟩:=fp.at_ (i:=p) (by rw[fC];omega);rw[fD,hE.out p p U Gk]at bJ;have l7:Hid (Zn AR p p p=dQ AR p):=Zb rfl;have V:=bJ.pos_iff;have O9:IntKind.i64.wrap ((p:Int)+1)=((p+1:Nat):Int):=by rw[IntKind.wrap_i64];omega
     cases n1
     case true =>
      have iK:Hid (¬ posP AR n):=Zb (λh=>by have:=V.2 (by rw[l7.out];exact h p U);simp at this);replace hM:=Zb hM;replace hK:=Zb hK;replace V:=Zb V;exact ID
     by_cases e4:k1=0
     case pos =>
      have iK:Hid (¬ posP AR n):=Zb (λh=>(V.2 (by rw[l7.out];exact h p U)).2 e4);have t3:((k1:Int) == 0)=true:=by simp[e4]
      have D0:decide (k1=0)=true:=by simpa using e4
      replace hM:=Zb hM;replace hK:=Zb hK;replace V:=Zb V;have q9:=bJ.1.2.1;subst e4;exact ID
     have f7:Hid (posP AR (p+1)):=Zb (λt ht=>by
      rcases Qh t p with h1|h1;exact a0.out t h1;rw[show t=p by omega];exact(by rw[<- l7.out];exact V.1 ⟨rfl,e4⟩))
     have t3:((k1:Int) == 0)=false:=by simp;omega
     have D0:decide (k1=0)=false:=by simpa using e4
     have q9:=bJ.1.2.1;replace hM:=Zb hM;replace hK:=Zb hK;replace V:=Zb V;replace e4:=Zb e4;clear fp fD fC bJ;go_wp2_with fail
     go_loopg [10] (n-(p+1)) (λk iv wr=>∃ (i:Nat) (L2:List RF),i+k=n/\iv=.int .i64 i/\p+1<=i/\MatB 35 41 wr go L2/\Hid (L2.length=n)/\Hid (L2.map RF.g=L.map RF.g)/\Hid (L2.map RF.c=L.map RF.c)/\Hid (ClrTo L1 L2 p p i)/\Kept (λg=>g ∈ L.map RF.g) w1 wr)
     case atStart=>exact⟨p+1,L1,by omega,by go_num,Qb _,hM.out,d0,K2,D4,Zb (λj hj=>by by_cases h1:j<=p \/ p+1<=j;rw[Gx h1];exact absurd h1 Gk),hK.out⟩
     case round =>
      clear hM hK cp zp p0 p1 p2 p3 q9;obtain⟨wi,rfl⟩:=Gy wr;obtain⟨i,L2,L4,rfl,O3,hM,b2,j8,r5,q4,hK⟩:=hrel;cases gk with
      | zero =>
       obtain rfl:n=i:=Gk;have t4:decide ((n:Int)<(n:Int))=false:=Gh
       have hfin:Hid (L2.map RF.q=Zft R (p+1)):=Zb (by
        rw[ClrTo.done (by rw[d0.out];exact q4.out) (by rw[b2.out,d0.out]),w9.out];rfl)
       replace hM:=Zb hM;replace hK:=Zb hK;go_wp2_with fail
       go_roundg (n-(p+1))
       case measure=>omega
       case rel=>exact⟨p+1,L2,by omega,by go_num,hM.out,b2,j8,r5,hfin,f7,hK.out⟩
      | succ j =>
       obtain rfl:j=n-(i+1):=Gk;have u:i<n:=Gk;have t4:decide ((i:Int)<(n:Int))=true:=Gv Gk;have bi:(i:Int)<(n:Int):=Gk;obtain⟨ri,O⟩:=Zb0 (L:=L2) (i:=i) (by rw[b2.out];exact u);obtain⟨r2,g5⟩:=Zb0 (L:=L2) (i:=p) (by rw[b2.out];exact U)
       have b1:ri.q=Zdf L1 i:=by
        have:=q4.out i (by rw[d0.out];exact u);rw[Zgl O,Gx (Or.inr (Qb i))]at this;exact this
       have x5:r2.q=Zdf L1 p:=by
        have:=q4.out p (by rw[d0.out];exact U);rw[Zgl g5,Gx (Or.inl (Qb p))]at this;exact this
       have c7:ri.q.length=n+1:=by rw[b1];exact a5.out i u
       have o4:r2.q.length=n+1:=by rw[x5];exact a5.out p U
       obtain⟨ci,zi⟩:=hM.cell O;obtain⟨cr,zr⟩:=hM.cell g5;obtain⟨fi,x7,r8⟩:=hM.row O;obtain⟨fr,M4,J0⟩:=hM.row g5;rw[c7]at ci x7;rw[o4]at cr M4;unfold maxLen at r8 J0;have N4:=hM.ne2 O g5 Gk;obtain⟨n1,A1,k1,c1,m1,B1,j1,d1,p0,p1,p2,p3,bJ⟩:=fi.at_ (i:=p) (by rw[c7];omega);obtain⟨n2,A2,k2,c2,m2,B2,j2,d2,q0,q1,q2,q3,v9⟩:=fr.at_ (i:=p) (by rw[o4];omega);rw[b1,hE.out i p u Gk]at bJ;rw[x5,hE.out p p U Gk]at v9;obtain⟨by_,i7⟩:∃ q:Rat,Zn AR p i p/Zn AR p p p=q:=⟨_,rfl⟩;have r4:Hid (SmN 300 300 by_):=Zb (by rw[<- i7];exact hl.out i p Gk u f7.out);have n3:=(hs.out p i p Gk a0.out u).sm (i:=380) Gj Gj;have o5:=(hs.out p p p Gk a0.out U).sm (i:=380) Gj Gj;have F0:Hid (Zn AR p p p≠0):=Zb (λh=>by have:=f7.out p Gk;rw[<- l7.out,h]at this;exact absurd this Gj);replace i7:=Zb i7;have N8:=Zb fi;have N6:=Zb fr;clear fi fr;replace hM:=Zb hM;replace hK:=Zb hK;go_wp2_with fail
       have y:Hid (∀ wx,Below wi.heap.size wi wx->wx.cell? ⟨go,i,none⟩=some (.slice (some ⟨ri.g,0,none⟩) (n+1) ri.c)/\wx.cell? ⟨go,p,none⟩=some (.slice (some ⟨r2.g,0,none⟩) (n+1) r2.c)/\wx.cell? ⟨ri.g,p*4,none⟩=some (.bool n1)/\wx.cell? ⟨ri.g,p*4+1,none⟩=some (.slice A1 k1 c1)/\wx.cell? ⟨ri.g,p*4+2,none⟩=some (.bool m1)/\wx.cell? ⟨ri.g,p*4+3,none⟩=some (.slice B1 j1 d1)/\wx.cell? ⟨r2.g,p*4,none⟩=some (.bool n2)/\wx.cell? ⟨r2.g,p*4+1,none⟩=some (.slice A2 k2 c2)/\wx.cell? ⟨r2.g,p*4+2,none⟩=some (.bool m2)/\wx.cell? ⟨r2.g,p*4+3,none⟩=some (.slice B2 j2 d2)):=Zb (λwx f=>⟨Za f ci,Za f cr,Za f p0,Za f p1,Za f p2,Za f p3,Za f q0,Za f q1,Za f q2,Za f q3⟩);have I:Below wi.heap.size wi wi.drew:=Zf (Qa _ _) 1;refine wp_heldS [] hmx y I (λhxs1=>?_);refine Zj9 14 [0,1,2,3,4,5,6,7,8,9,10,11,12,13] rfl Gi (y.out _ I) ?_
       iterate 14 (refine tkA ?_;try simp only[Qc,Zhb,Zgo,Zg6,Gr,Gq,Gp])
       refine tk0 ?_;refine Za1 [(14,88),(15,11)] (λ_=>[]) [(14,88),(15,11)] (Zm0 wi.heap.size (Zn AR p i p/Zn AR p p p) 14 15) 1 Gi (λ_ _ _ _ _ hb h=>Ztr hb h) (λwx h=>y.out _ (Gs I h)) ?hop1 ?hfin1
       case hop1 =>
        intro p hp;simp only[List.mem_cons,List.not_mem_nil,or_false]at hp;simp only[Qt,Qv,Zam,Qc,Zhb,Zgo,Zg6];rcases hp with rfl|rfl
        ·intro ν wx hb hP
         have f:=Gs I hb;refine Zm (i:=14) rfl (λK hK=>?_);go_simp;refine(Zmi n1 A1 k1 c1 m1 B1 j1 d1 n2 A2 k2 c2 m2 B2 j2 d2 _ _ wx (bJ.below f) (v9.below f) n3 o5 F0.out).mono ?_;rintro e w5 ⟨H4,O7,A5,k5,c5,O5,B5,m5,d5,rfl,i6⟩;exact hK.out _ _ ⟨_,rfl,(by simp only[Zm0];exact⟨_,_,_,_,_,_,_,_,rfl,i6⟩),H4,trivial⟩
        intro ν wx hb hP;refine Zm (i:=15) rfl (λK hK=>?_);go_simp;exact hK.out _ _ ⟨_,rfl,(by simp only[Zm0];exact⟨_,rfl,hb.size,Qo _ _ _⟩),(Qa _ _).alloc (Qb _) _,trivial⟩
       case hfin1 =>
        intro ν wx hb hP;have h0:=hP (14,88) Gh;have h4:=hP (15,11) Gh;simp only[Zm0]at h0 h4;obtain⟨bbn,m8,bbk,bbc,bbm,n9,bbj,bbd,h0,bbf⟩:=h0;obtain⟨gbb,h4,kv,qv⟩:=h4;simp only[Qt,Qv,Zam,Qc,Zhb,Zgo,Zg6];rw[h0,h4];clear h0 h4 hP ν;have f:=Gs I hb;have c8:=qv.four;have z3:wi.heap.size<=gbb:=kv;refine(Zaa bbn m8 bbk bbc bbm n9 bbj bbd f z3 qv).elim (λZbb hq=>?_);have c0:=c8.1;have l0:=c8.2.1;have G6:=c8.2.2.1;have c3:=c8.2.2.2.1;have f0:=c8.2.2.2.2.1;have f1:=c8.2.2.2.2.2.1;have f2:=c8.2.2.2.2.2.2.1;have f3:=c8.2.2.2.2.2.2.2;have hZ:=hq.1;refine wpAnyL_o 16 λK hK=>?_;go_simp;(try rw[hZ]);refine hK.out _ _ (λ_=>y.out _ hq.2.1) ?_;clear hK K
        try simp only[Qc,Zhb,Zgo,Zg6]
        refine wpAnyL_fin ?_;have e8:=hq.2.1;have bbb:=Zb hq.2.2.1;have A7:Hid (wi.heap.size<=gbb):=Zb z3;replace bbf:=Zb (Fr.keep bbf hq.2.2.2.1);clear hq hZ c0 l0 G6 c3 f0 f1 f2 f3 c8 qv kv z3 f hb I y hxs1;rw[i7.out]at bbf;have h8:=hM.out.below e8;have a7:Kept (λg=>g ∈ L.map RF.g) w1 Zbb:=hK.out.below e8
        have H5:Hid (gbb ∉ L.map RF.g):=Zb (λhmem=>by
         obtain⟨t,cs,hb,-⟩:=I6.out gbb hmem;have:=hb.lt;have:=hK.out.size;have:=A7.out;omega)
        have C6:Hid (∀ k,k ∈ L.map RF.g->∃ t cs,Blk Zbb k t cs/\NoLimb cs):=Zb (λk hk=>h8.boxes k (.inr (by rw[j8.out];exact hk)));have G4:Hid (ri.g ∈ L.map RF.g):=Zb (by rw[<- j8.out];exact List.mem_map.2 ⟨ri,Qf O,rfl⟩);have P8:Hid (r2.g ∈ L.map RF.g):=Zb (by rw[<- j8.out];exact List.mem_map.2 ⟨r2,Qf g5,rfl⟩);clear hK hM p0 p1 p2 p3 q0 q1 q2 q3 n3 o5 bJ v9 ci cr zi zr e8;replace a7:=Zb a7;go_wp2_with fail
        go_loopg [12] (n+1-p) (λk iv wr=>∃ (j:Nat) (q3:List Rat),j+k=n+1/\iv=.int .i64 j/\p<=j/\MatB 35 41 wr go (L2.set i ⟨ri.g,ri.c,q3⟩)/\Hid (q3.length=n+1)/\Hid (∀ t:Nat,q3[t]?.getD 0=if p<=t/\t<j then (Zdf L1 i)[t]?.getD 0-by_*(Zdf L1 p)[t]?.getD 0 else (Zdf L1 i)[t]?.getD 0)/\Kept (λg=>g ∈ L.map RF.g) Zbb wr)
        case atStart =>
         refine⟨p,ri.q,by omega,rfl,Qb _,?_,Zb c7,Zb (λt=>by rw[Gw Gk,b1]),Qs _ _⟩
         have e:L2.set i ⟨ri.g,ri.c,ri.q⟩=L2:=by
          apply QD;intro t;rw[Qj]
          split
          rename_i h;subst h;rw[Gx (by rw[b2.out];exact u),O];rfl
         rw[e];exact h8
        case round =>
         clear h8;obtain⟨wj,rfl⟩:=Gy wr;obtain⟨j,q3,P4,rfl,F8,a6,h7,v4,c6⟩:=hrel;obtain⟨c0,z0⟩:=a6.cell (i:=i) (r:=⟨ri.g,ri.c,q3⟩) (by rw[Qj,Gx rfl,Gx (by rw[b2.out];exact u)]);simp only[h7.out]at c0;cases gk with
         | zero =>
          obtain rfl:j=n+1:=Gk;have t5:decide (((n+1:Nat):Int)<=(n:Int))=false:=Gu Gk;have P1:decide ((n:Int)+1<=(n:Int))=false:=Gu Gk
          have c9:Hid ((L2.set i ⟨ri.g,ri.c,q3⟩).length=n/\(L2.set i ⟨ri.g,ri.c,q3⟩).map RF.g=L.map RF.g/\(L2.set i ⟨ri.g,ri.c,q3⟩).map RF.c=L.map RF.c/\ClrTo L1 (L2.set i ⟨ri.g,ri.c,q3⟩) p p (i+1)):=Zb (by
           refine⟨by rw[Qy];exact b2.out,?_,?_,?_⟩;rw[Ze1 (s:=⟨ri.g,ri.c,q3⟩) O rfl];exact j8.out;rw[Ze1 (s:=⟨ri.g,ri.c,q3⟩) O rfl];exact r5.out;refine q4.out.step (by rw[b2.out,d0.out]) (by rw[d0.out];exact u) Gk ?_;refine rowR_eq (by rw[h7.out,a5.out i u]) (λt=>?_);rw[v4.out t,a5.out i u,hE.out i p u Gk,hE.out p p U Gk,i7.out])
          have I1:Hid (Kept (λg=>g ∈ L.map RF.g) w1 wj):=Zb (a7.out.trans c6);replace a6:=Zb a6;clear c6;go_wp2_with fail
          go_roundg (n-(i+1))
          case measure=>omega
          case rel=>exact⟨i+1,_,by omega,by go_num,by omega,a6.out,Zb c9.out.1,Zb c9.out.2.1,Zb c9.out.2.2.1,Zb c9.out.2.2.2,I1.out⟩
         | succ gk' =>
          obtain rfl:gk'=n-j:=Gk;have m9:j<n+1:=Gk;have t5:decide ((j:Int)<=(n:Int))=true:=Gv Gk;have bj:(j:Int)<(n:Int)+1:=Gk;have O4:(j:Int)<((n+1:Nat):Int):=Gk;obtain⟨l0,z1⟩:=a6.cell (i:=p) (r:=r2) (by rw[Qj,Gw Gk];exact g5);rw[o4]at l0;obtain⟨f3,-,-⟩:=a6.row (i:=i) (r:=⟨ri.g,ri.c,q3⟩) (by rw[Qj,Gx rfl,Gx (by rw[b2.out];exact u)]);obtain⟨f4,-,-⟩:=a6.row (i:=p) (r:=r2) (by rw[Qj,Gw Gk];exact g5);obtain⟨n4,A4,k4,c4,m4,B4,j4,d4,q0,q1,q2,D1,D8⟩:=f4.at_ (i:=j) (by rw[o4];exact m9);rw[x5]at D8;have B9:=c6.blk bbb.out H5.out;obtain⟨x0,x1,x2,x3,-⟩:=B9.four;have M3:Fr wj bbn m8 bbk bbc bbm n9 bbj bbd by_:=⟨c6.wd bbf.out.1 C6.out,c6.wd bbf.out.2 C6.out⟩;have q6:=h7.out;obtain⟨n5,A5,k5,c5,m5,B5,j5,d5,u0,u1,u2,u3,i6⟩:=f3.at_ (i:=j) (by rw[q6];exact m9)
          have q5:q3[j]?.getD 0=(Zdf L1 i)[j]?.getD 0:=by
           have h1:=v4.out j;rw[Gw Gk]at h1;exact h1
          simp only[q5]at i6;have v0:=f3.frozen (j*4);have v1:=f3.frozen (j*4+1);have v2:=f3.frozen (j*4+2);have v3:=f3.frozen (j*4+3);have L6:Hid (SmN 380 380 ((Zdf L1 i)[j]?.getD 0)):=Zb (by rw[hE.out i j u Gk];exact hs.out p i j Gk a0.out u);have E2:Hid (SmN 380 380 ((Zdf L1 p)[j]?.getD 0)):=Zb (by rw[hE.out p j U Gk];exact hs.out p p j Gk a0.out U);have n3:=r4.out.sm (i:=300) Gj Gj;have o5:=E2.out.sm (i:=380) Gj Gj;have L8:=L6.out.sm (i:=380) Gj Gj;have K8:Sm (by_*(Zdf L1 p)[j]?.getD 0):=(r4.out.mulN E2.out).sm Gj Gj;replace a6:=Zb a6;replace c6:=Zb c6;clear f4 B9 f3 q6 q5;go_wp2_with fail;obtain⟨X0,T⟩:=Gz wj.drew;have I:Below wj.heap.size wj X0:=by rw[<- T];exact Zf (Qa _ _) 1
          have y:Hid (∀ wx,Below wj.heap.size wj wx->wx.cell? ⟨go,i,none⟩=some (.slice (some ⟨ri.g,0,none⟩) (n+1) ri.c)/\wx.cell? ⟨go,p,none⟩=some (.slice (some ⟨r2.g,0,none⟩) (n+1) r2.c)/\wx.cell? ⟨ri.g,j*4,none⟩=some (.bool n5)/\wx.cell? ⟨ri.g,j*4+1,none⟩=some (.slice A5 k5 c5)/\wx.cell? ⟨ri.g,j*4+2,none⟩=some (.bool m5)/\wx.cell? ⟨ri.g,j*4+3,none⟩=some (.slice B5 j5 d5)/\wx.cell? ⟨gbb,0,none⟩=some (.bool bbn)/\wx.cell? ⟨gbb,1,none⟩=some (.slice m8 bbk bbc)/\wx.cell? ⟨gbb,2,none⟩=some (.bool bbm)/\wx.cell? ⟨gbb,3,none⟩=some (.slice n9 bbj bbd)/\wx.cell? ⟨r2.g,j*4,none⟩=some (.bool n4)/\wx.cell? ⟨r2.g,j*4+1,none⟩=some (.slice A4 k4 c4)/\wx.cell? ⟨r2.g,j*4+2,none⟩=some (.bool m4)/\wx.cell? ⟨r2.g,j*4+3,none⟩=some (.slice B4 j4 d4)):=Zb (λwx f=>⟨Za f c0,Za f l0,Za f u0,Za f u1,Za f u2,Za f u3,Za f x0,Za f x1,Za f x2,Za f x3,Za f q0,Za f q1,Za f q2,Za f D1⟩);refine wp_heldS [23] hmx y (by rw[T];exact I) (λhxs=>?_);rw[T];refine Zj9 20 [0,1,2,3,4,5,6,7,8,9,10,11,12,13,14,15,16,17,18,19] rfl Gi (y.out _ I) ?_
          iterate 20 (refine tkA ?_;try simp only[Qc,Zhb,Zgo,Zg6,Gr,Gq,Gp])
          refine tk0 ?_;refine wpAnyL_o 20 λK hK=>?_;go_simp;refine(Zlr bbn m8 bbk bbc bbm n9 bbj bbd n4 A4 k4 c4 m4 B4 j4 d4 _ _ X0 (M3.below I) (D8.below I) n3 o5).mono ?_;rintro e e5 ⟨d9,yn,yA,yk,yc,ym,yB,yj,yd,rfl,hy⟩;have C:=Gs I d9;refine hK.out _ _ (λ_=>y.out _ C) ?_;clear hK K
          try simp only[Qc,Zhb,Zgo,Zg6]
          refine wpAnyL_o 21 λK hK=>?_;go_simp;refine(Zlw n5 A5 k5 c5 m5 B5 j5 d5 yn yA yk yc ym yB yj yd _ _ e5 (i6.below C) hy L8 K8).mono ?_;rintro e F2 ⟨l5,zn,zA,zk,zc,zm,zB,zj,zd,rfl,hz⟩;have J:=Gs C l5;refine hK.out _ _ (λ_=>y.out _ J) ?_;clear hK K
          try simp only[Qc,Zhb,Zgo,Zg6]
          refine Zgp 1 [22] rfl Gi (y.out _ J) ?_
          (refine tkA ?_;try simp only[Qc,Zhb,Zgo,Zg6,Gr,Gq,Gp])
          refine tk0 ?_;have n7:=a6.out.below J;obtain⟨Z9,d3⟩:=Gz (Zgf F2 ri.g j zn zA zk zc zm zB zj zd);have a8:=d3;unfold Zgf at a8;have v8:Hid (Kept (λg=>g ∈ L.map RF.g) Zbb Z9):=Zb (by rw[<- d3];exact Zpt (c6.out.below J) (.inl G4.out))
          have w3:Hid (MatB 35 41 Z9 go (L2.set i ⟨ri.g,ri.c,q3.set j ((Zdf L1 i)[j]?.getD 0-by_*(Zdf L1 p)[j]?.getD 0)⟩)):=Zb (by
           have h1:=n7.set_ (i:=i) (r:=⟨ri.g,ri.c,q3⟩) (by rw[Qj,Gx rfl,Gx (by rw[b2.out];exact u)]) (k:=j) (by rw[show RF.q ⟨ri.g,ri.c,q3⟩=q3 from rfl,h7.out];exact m9) hz;rw[List.set_set]at h1;rw[<- d3];exact h1)
          have f0:=Zl J u0 v0;have f1:=Zl J u1 v1;have f2:=Zl J u2 v2;have f3:=Zl J u3 v3;have g0:=Za J u0;have g1:=Za J u1;have g2:=Za J u2;have g3:=Za J u3;clear n7 d3;refine Zv (i:=23) rfl Gi Gi (λK hK=>?_);go_simp;(try rw[a8]);refine hK.out _ _ ?_;clear hK K
          try simp only[Qc,Zhb,Zgo,Zg6]
          refine wpAnyL_fin ?_;clear a8 f0 f1 f2 f3 g0 g1 g2 g3 J I y hxs T u0 u1 u2 u3 x0 x1 x2 x3 v0 v1 v2 v3 q0 q1 q2 D1 hz hy i6 a6 c6 c0 l0 z0 z1;go_wp2_with fail
          go_roundg (n-j)
          case measure=>omega
          case rel=>exact⟨j+1,_,by omega,by go_num,by omega,w3.out,Zb (by rw[Qy];exact h7.out),Zb (Zz8 (by rw[h7.out,a5.out i u]) F8 (by rw[a5.out i u];exact m9) rfl v4.out),v8.out⟩
def IdxC(w:World)(b:Bool)(e:Ending)(w':World):Prop:=∃ i:Int,e=.returned (.int .i64 i)/\decide (0<=i)=b/\Below w.heap.size w w'
theorem Zzi(na nb:Bool)(A B:Option Addr)(n c m d:Nat)(la lb:List Nat)(w:World)(ha:Lim w A n c la)(hb:Lim w B m d lb)(b:Bool)(hx:(decide (max n m<=64) && okF na la nb lb)=b) :
    Calls Tryz.prog 109 #[.agg #[.bool na,.slice A n c,.bool nb,.slice B m d]] w λe w'=>e=.returned (.bool (!b))/\Below w.heap.size w w':=by
 obtain⟨W0,C,aq,q0,s0⟩:=Zan w 41 #[.bool na,.slice A n c,.bool nb,.slice B m d];obtain⟨a0,a1,a2,a3,-⟩:=q0.four;have u:=Qw ha.2.1 ha.2.2.1;have o:=Qw hb.2.1 hb.2.2.1;unfold maxLen at u o;obtain⟨y,hy⟩:=Gz (okF na la nb lb);rw[hy]at hx;have hC:=Zb (λW1 (h1:Below w.heap.size w W1)=>Zme na nb A B n c m d la lb W1 (ha.below h1) (hb.below h1) y hy);clear ha hb hy;have hmx:max (n:Int) (m:Int)=((max n m:Nat):Int):=Gk;by_cases h8:max n m<=64
 ·have t1:decide ((64:Int)<((max n m:Nat):Int))=false:=Gu Gk
  have h:decide (64<max n m)=false:=Gu Gk;have f:decide ((64:Int)<max (n:Int) (m:Int))=false:=Gu Gk;rw[Gv h8,Bool.true_and]at hx;subst hx;cases y
  ·go_in
   exact CS
  go_in
  exact CP
 have t1:decide ((64:Int)<((max n m:Nat):Int))=true:=Gv Gk;have h:decide (64<max n m)=true:=Gv Gk;have f:decide ((64:Int)<max (n:Int) (m:Int))=true:=Gv Gk;rw[Gu h8,Bool.false_and]at hx;subst hx;go_in;exact Iu
theorem Zzf(A:Option Addr)(n c:Nat)(es:List FX)(w:World)(h:FXL w A n c es)(b:Bool)(hb:Zci es=b) :
    Calls Tryz.prog 150 #[.slice A n c,.func (.func 109) #[] #[]] w (IdxC w (!b)):=by
 have hl:=h.1;have I:=h.2.1;have y:=h.2.2.1;unfold maxLen at y;replace hl:=Zb hl;replace hb:=Zb hb;replace h:=Zb h;go_in;go_wp2_with fail
 go_loopw [8] (λiv wr=>∃ i:Nat,i<=n/\iv=.int .i64 i/\Hid (∀ j e,j<i->es[j]?=some e->e.fine64=true)/\Below w.heap.size w wr) (λiv _=>n-(intOf iv).toNat)
 case atStart=>exact⟨0,Qm _,rfl,Zb (λj e hj=>by omega),Qa _ _⟩
 case round =>
  obtain⟨i,J,rfl,au,aH⟩:=hrel;by_cases hin:i<n
  case neg =>
   obtain rfl:n=i:=Gk;have C:decide ((n:Int)<(n:Int))=false:=Gh
   obtain rfl:b=true:=by
    rw[<- hb.out];unfold Zci;exact Eb
   exact Fj
  have C:decide ((i:Int)<(n:Int))=true:=Gv Gk;obtain⟨g,o,e,rfl,he,hc,f,u⟩:=(h.out.below aH).at_ hin;obtain⟨c0,c1,c2,c3⟩:=hc;obtain⟨x,hx⟩:=Gz e.fine64;have hC:=Zb (λW1 (hb:Below wr.heap.size wr W1)=>Zzi e.na e.nb e.A e.B e.n e.c e.m e.d e.la e.lb W1 (f.below hb) (u.below hb) x hx);clear f u;cases x
  ·obtain rfl:b=false:=by
     rw[<- hb.out];unfold Zci;rw[List.all_eq_false];exact⟨e,Qf he,by rw[hx];decide⟩
   exact CR
  have ay:Hid (∀ j e,j<i+1->es[j]?=some e->e.fine64=true):=Zb (λj e' hj he'=>by
    rcases Qh j i with h'|h';exact au.out j e' h' he';obtain rfl:j=i:=Gk;rw[he]at he';cases he';exact hx)
  exact CQ
theorem Zxi(A:Option Addr)(n c:Nat)(es:List FX)(w:World)(h:FXL w A n c es)(b:Bool)(hb:Zci es=b) :
    Calls Tryz.prog 108 #[.slice A n c,.func (.func 109) #[] #[]] w λe w'=>e=.returned (.bool (!b))/\Below w.heap.size w w':=by
 go_in;go_wp2_with fail;refine(Zzf A n c es w h b hb).mono ?_;exact EX
theorem Zlj(A:Option Addr)(n c:Nat)(es:List FX)(w:World)(h:FXL w A n c es)(b:Bool)(hb:Zci es=b) :
    Calls Tryz.prog 65 #[.slice A n c] w λe w'=>e=.returned (.bool b)/\Below w.heap.size w w':=by
 go_in;go_wp2_with fail;refine(Zxi A n c es w h b hb).mono ?_;rintro e w1 ⟨rfl,f⟩;go_wp2_with fail;go_ret;exact⟨by simp,f⟩
theorem CA{G:Prop}(h:G:=by
 unfold maxLen at hn;have hd:decide ((6:Int)<(n:Int))=decide (6<n):=decide_eq_decide.2 Gk;go_in;exact Fu):G:=h
theorem Zyg(A:Option Addr)(n c:Nat)(w:World)(hn:n<=maxLen) :
    Calls Tryz.prog 104 #[.slice A n c] w λe w'=>e=.returned (.bool (decide (6<n)))/\Below w.heap.size w w':=by
 exact CA
theorem FXL.nlenC{w:World}{A:Option Addr}{n c:Nat}{es:List FX}(h:FXL w A n c es):n<=maxLen:=Qw h.2.1 h.2.2.1
theorem Zyv(A:Option Addr)(n c:Nat)(rs:List RX)(w:World)(h:MXL w A n c rs)(b:Bool)(hb:rs.any RX.long6=b) :
    Calls Tryz.prog 146 #[.slice A n c,.func (.func 104) #[] #[]] w (IdxC w b):=by
 have hl:=h.1;have u:=h.2.1;have f:=h.2.2.1;unfold maxLen at f;replace hl:=Zb hl;replace hb:=Zb hb;replace h:=Zb h;go_in;go_wp2_with fail
 go_loopw [8] (λiv wr=>∃ i:Nat,i<=n/\iv=.int .i64 i/\Hid (∀ j e,j<i->rs[j]?=some e->e.long6=false)/\Below w.heap.size w wr) (λiv _=>n-(intOf iv).toNat)
 case atStart=>exact⟨0,Qm _,rfl,Zb (λj e hj=>by omega),Qa _ _⟩
 case round =>
  obtain⟨i,y,rfl,au,aH⟩:=hrel;by_cases hin:i<n
  case neg =>
   exact Em
  have fH:decide ((i:Int)<(n:Int))=true:=Gv Gk;obtain⟨g,o,r,rfl,he,c0,hL⟩:=(h.out.below aH).at_ hin;have hC:=Zb (λW1=>Zyg r.A r.n r.c W1 hL.nlenC);clear hL;by_cases hx:6<r.n
  ·obtain rfl:b=true:=by
     rw[<- hb.out,List.any_eq_true];exact⟨r,Qf he,by unfold RX.long6;simpa using hx⟩
   exact Cb
  have ay:Hid (∀ j e,j<i+1->rs[j]?=some e->e.long6=false):=Zb (λj e' hj he'=>by
    rcases Qh j i with h'|h';exact au.out j e' h' he';obtain rfl:j=i:=Gk;rw[he]at he';cases he';unfold RX.long6;simpa using hx)
  exact Cc
theorem Zvw(A:Option Addr)(n c:Nat)(rs:List RX)(w:World)(h:MXL w A n c rs)(b:Bool)(hb:rs.any RX.long6=b) :
    Calls Tryz.prog 105 #[.slice A n c,.func (.func 104) #[] #[]] w λe w'=>e=.returned (.bool b)/\Below w.heap.size w w':=by
 go_in;go_wp2_with fail;refine(Zyv A n c rs w h b hb).mono ?_;exact EX
def covV(rs:List RX):Prop:=long6 rs=false/\rs.length≠0/\rs.all (Zc6 rs.length)=true
def FacC(rs:List RX):Prop:=covV rs->Zhg (qM rs)=true->FacP (Zh (qM rs)) rs.length
section
variable{w:World}{A:Option Addr}{n c:Nat}{rs:List RX}
theorem covV.facts(h:covV rs):0<rs.length/\rs.length<=6/\∀ r ∈ rs,r.n=rs.length/\Zci r.es=true:=by
 obtain⟨h1,h2,h3⟩:=h;unfold long6 at h1;rw[Bool.or_eq_false_iff]at h1;have h6:=of_decide_eq_false h1.1;refine⟨by omega,by omega,λr hr=>?_⟩;exact Ic
theorem Zev(h:Za2 rs=0):covV rs/\Zhg (qM rs)=true/\posP (Zh (qM rs)) rs.length:=by
 obtain⟨h1,h2,h3,h4,h5⟩:=Zu8 h;refine⟨⟨?_,by omega,?_⟩,h4,h5⟩
 ·cases hl:long6 rs with
  | false=>rfl
  | true=>rw[Zfz hl]at h;cases h
 rw[Qx];intro r hr;unfold Zc6;rw[QE,decide_eq_true_eq];exact h3 r hr
theorem covV.E(h:covV rs):Za2 rs=if (Zhg (qM rs) && posB (Zh (qM rs)) rs.length)=true then 0 else 8:=by
 obtain⟨h1,h2,h3⟩:=h;unfold Za2;rw[Gw (by rw[h1];decide),Gw h2,Gx h3]
theorem covV.asym(h:covV rs)(hs:Zhg (qM rs)=false):Za2 rs=8:=by rw[h.E,hs];rfl
theorem covV.pos(h:covV rs)(hs:Zhg (qM rs)=true)(hp:posP (Zh (qM rs)) rs.length):Za2 rs=0:=by
 rw[h.E,hs,posB_iff.2 hp];rfl
theorem covV.neg(h:covV rs)(hs:Zhg (qM rs)=true)(hp:¬ posP (Zh (qM rs)) rs.length):Za2 rs=8:=by
 have:posB (Zh (qM rs)) rs.length=false:=by
  cases hb:posB (Zh (qM rs)) rs.length with
  | false=>rfl
  | true=>exact absurd (posB_iff.1 hb) hp
 rw[h.E,hs,this];rfl
theorem covV.good(hV:covV rs)(h:MXL w A n c rs):MFL w A n c (qM rs):=h.mfl λr hr=>Zto (hV.facts.2.2 r hr).2
theorem covV.row(hV:covV rs)(h:MXL w A n c rs)(i:Nat)(hi:i<n):((qM rs)[i]?.getD []).length=n:=by
 unfold qM;rw[Qi,Qg (by rw[h.1];exact hi)];simp only[Qk,Qn,Ql];have hr:rs[i]'(by rw[h.1];exact hi) ∈ rs:=List.getElem_mem _;have h4:=(h.2.2.2.1 _ hr).1;rw[h4,(hV.facts.2.2 _ hr).1,h.1]
theorem covV.small(hV:covV rs)(h:MXL w A n c rs){k:Nat}(hf:Zjr k rs):SmE k (qM rs):=λi j=>by
 unfold Zh qM;rw[Qi];cases hr:rs[i]? with
 | none=>exact⟨Qm _,Zb1 _⟩
 | some r =>
  simp only[Qk,Qn,Qi];cases he:r.es[j]? with
  | none=>exact⟨Qm _,Zb1 _⟩
  | some e =>
   simp only[Qk,Qn];have o:=Qf hr;have f:=Qf he;have h5:=(hV.facts.2.2 r o).2;unfold Zci at h5;rw[Qx]at h5;have h6:=h5 e f;unfold FX.fine64 at h6;rw[QE,decide_eq_true_eq]at h6;refine Zj6 ((h.2.2.2.1 r o).2.2.2.1 e f) h6.2 ?_;rcases hf r o e f with h7|h7 <;> omega
theorem covV.small64(hV:covV rs)(h:MXL w A n c rs):SmE 64 (qM rs):=hV.small h (λr _ e _=>Qh 64 e.few |>.symm)
theorem SmE.smC{k:Nat}{Q:List (List Rat)}(h:SmE k Q)(hk:k<1000)(i j:Nat):Sm (Zh Q i j):=
 ⟨QC (h i j).1 (Zct hk),QC (h i j).2 (Zct hk)⟩
theorem covV.fac(hV:covV rs)(h:MXL w A n c rs)(hs:Zhg (qM rs)=true){k:Nat}(hf:Zjr k rs)(hb:(k*n+k+1)*n+((k*n+k+1)*n+k*n)+2<=300):FacP (Zh (qM rs)) n:=by
 have h6:=hV.facts.2.1;have hl:(qM rs).length=n:=Zvt h;have hn:rs.length=n:=h.1;exact FacP.of (hV.small h hf) hl Gk (λi hi=>hV.row h i hi) (λi k hi hk=>symB_iff.1 hs i k Gk Gk) hb
theorem FacC.of(h:MXL w A n c rs){k:Nat}(hf:Zjr k rs)(hb:n<=6->(k*n+k+1)*n+((k*n+k+1)*n+k*n)+2<=300):FacC rs:=λhV hs=>by
 have hn:rs.length=n:=h.1;rw[hn];exact hV.fac h hs hf (hb (by have:=hV.facts.2.1;omega))
theorem MFL.atS{w:World}{g o n c:Nat}{Q:List (List Rat)}(h:MFL w (some ⟨g,o,none⟩) n c Q){k:Nat}(hk:k<n):∃ A' n' c',w.cell? ⟨g,o+k,none⟩=some (.slice A' n' c')/\FL w A' n' c' (Q[k]?.getD []):=by
 obtain⟨g',o',A',n',c',e,h1,h2⟩:=h.at_ hk;cases e;exact⟨_,_,_,h1,h2⟩
theorem cmpQ_zero{a b:Rat}:Zox a b=0 ↔ a=b:=by
 unfold Zox;constructor
 ·intro h
  split at h
  cases h
  split at h
  cases h;rename_i h1 h2;exact Rat.le_antisymm (Rat.not_lt.1 h2) (Rat.not_lt.1 h1)
 intro h;subst h;rw[Gw Rat.lt_irrefl,Gw Rat.lt_irrefl]
end
theorem Zjm{A:Nat->Nat->Rat}{n c:Nat}(h:∀ i,i<n->A i c=0):∀ t i,t<=n->i<n->Zn A t i c=0
 | 0,i,_,hi=>h i hi
 | t+1,i,ht,hi=>by
  show (if t<i then _ else _)=_;rw[Zjm h t i Gk hi,Zjm h t t Gk Gk]
  split
  ·grind
  rfl
theorem SmN.zeroC(a b:Nat):SmN (a+1) (b+1) 0:=⟨by have:=Zb1 (a+1);show (0:Rat).num.natAbs<_;exact this,by
 show (1:Nat)<pw (b+1);rw[Za7];have:=Zb1 b;omega⟩
section
variable{Q:List (List Rat)}{n:Nat}
theorem Zta(hm:∀ i,i<n->(Q[i]?.getD []).length=n){t i k:Nat}(ht:t<=n)(hi:i<n):Zn (Zh (Zcq Q (Qd n 0) n)) t i k=if k<n then Zn (Zh Q) t i k else 0:=by
 by_cases hk:k<n
 ·rw[Gx hk]
  exact Zcu (n:=n) (m:=n) (λi k hi hk=>Zy4 hm hi hk) (Qb _) t i k ht hi hk
 rw[Gw hk];refine Zjm (n:=n) (λi hi=>?_) t i ht hi;rcases Qh n k with h|h;exact Zvk hm hi h;obtain rfl:n=k:=Gk;rw[Zus hm hi];simp[List.getElem?_replicate,hi]
theorem Zp3(hm:∀ i,i<n->(Q[i]?.getD []).length=n){i:Nat}(hi:i<n):dQ (Zh (Zcq Q (Qd n 0) n)) i=dQ (Zh Q) i:=by
 unfold dQ;rw[Zta hm Gk hi,Gx hi]
theorem Zin(hm:∀ i,i<n->(Q[i]?.getD []).length=n){t:Nat}(ht:t<=n):posP (Zh (Zcq Q (Qd n 0) n)) t ↔ posP (Zh Q) t:=
 ⟨λh s hs=>by rw[<- Zp3 hm Gk];exact h s hs,λh s hs=>by rw[Zp3 hm Gk];exact h s hs⟩
theorem wide0_l(hm:∀ i,i<n->(Q[i]?.getD []).length=n){i k:Nat}(hi:i<n)(hk:k<n):lQ (Zh (Zcq Q (Qd n 0) n)) i k=lQ (Zh Q) i k:=by
 unfold lQ;rw[Zp3 hm hk,Zta hm Gk hi,Gx hk]
theorem Zsz(hm:∀ i,i<n->(Q[i]?.getD []).length=n):SolvC (λi j=>Zn (Zh (Zcq Q (Qd n 0) n)) i i j) (λ_ _=>0) n:=by
 have hz:∀ (E:Nat->Nat->Rat) i t,upS E (λ_ _=>0) i n t=E i n:=λE i t=>by
  unfold upS
  have:Zw t (λj=>if i<j then E i j*0 else 0)=0:=by
   induction t with
   | zero=>rfl
   | succ t ih=>simp only[Zw];rw[ih];split <;> grind
  rw[this];grind
 have hE:∀ i,Zn (Zh (Zcq Q (Qd n 0) n)) i i n=0 \/ n<=i:=λi=>by
  rcases Qh i n with h|h;left;rw[Zta hm Gk h,Gw Gk];exact .inr h
 refine⟨λi hi=>?_,λi=>SmN.zeroC 299 299,λi t=>?_⟩
 ·rw[hz]
  show (0:Rat)=Zn _ i i n/_;rcases hE i with h|h;rw[h];grind;omega
 rw[hz];show SmN 400 400 (Zn _ i i n);rcases hE i with h|h;rw[h];exact SmN.zeroC 399 399;have h0:∀ t,Zn (Zh (Zcq Q (Qd n 0) n)) t i n=0 \/ True:=λ_=>.inr trivial
 have h1:∀ t j,n<=j->Zn (Zh (Zcq Q (Qd n 0) n)) t j n=0:=λt=>by
  induction t with
  | zero =>
   intro j hj;show Zh _ j n=0;unfold Zh;rw[Qe (l:=Zcq Q _ n) (by rw[Zlf];exact hj)];rfl
  | succ t ih =>
   intro j hj;show (if t<j then _ else _)=_
   have h2:Zn (Zh (Zcq Q (Qd n 0) n)) t t n=0:=by
    rcases Qh t n with h3|h3;rw[Zta hm Gk h3,Gw Gk];exact ih t h3
   rw[ih j hj,h2]
   split
   ·grind
   rfl
 rw[h1 i i h];exact SmN.zeroC 399 399
end
theorem Zsb(n:Nat)(w:World)(hn9:n<=100) :
    Calls Tryz.prog 58 #[.int .i64 n] w λe w'=>∃ v,e=.returned v/\Below w.heap.size w w'/\OwnF 41 w' w.heap.size v (Qd n 0):=by
 obtain⟨iF,hi,U,a0,a1⟩:=info_parts Ze0;go_in;go_wp2_with fail
 go_loopg [3,4] n (λk ov iv wr=>∃ i:Nat,i+k=n/\iv=.int .i64 i/\Below w.heap.size w wr/\OwnF 41 wr w.heap.size ov (Qd i 0))
 case atStart=>exact⟨0,by omega,rfl,Qa _ _,OwnF.nil _ _ _⟩
 case round =>
  obtain⟨i,a5,rfl,hB,hO⟩:=hrel;cases gk with
  | zero =>
   obtain rfl:n=i:=Gk;have t1:decide ((n:Int)<(n:Int))=false:=Gh;replace hO:=Zb hO;go_wp2_with fail;go_ret;exact⟨_,rfl,hB,hO.out⟩
  | succ k' =>
   obtain rfl:k'=n-(i+1):=Gk;have a6:i<n:=Gk;have t1:decide ((i:Int)<(n:Int))=true:=Gv Gk;obtain⟨zA,zc,rfl,f⟩:=hO.fl;have C:(Qd i (0:Rat)).length=i:=Gh;rw[C]at f ⊢;replace hO:=Zb hO;replace f:=Zb f;go_wp2_with fail;refine(Zxn 0 wr Gj Gj).mono ?_;rintro e w1 ⟨y,xn,xA,xk,xc,xm,xB,xj,xd,rfl,hf⟩;obtain⟨Y1,h⟩:=Gz (w1.alloc (.cells #[.bool xn,.slice xA xk xc,.bool xm,.slice xB xj xd] 41));have u:Below w1.heap.size w1 Y1:=by rw[<- h];exact(Qa _ _).alloc (Qb _) _
   have T:Blk Y1 w1.heap.size 41 #[.bool xn,.slice xA xk xc,.bool xm,.slice xB xj xd]:=by rw[<- h];exact Qo _ _ _
   have V:Fr Y1 xn xA xk xc xm xB xj xd 0:=hf.below u;have o:=(hO.out.kept y).kept u;have O:=hB.trans ((Gs y u).mono hB.size);have I:=O.size;rw[C]at o;go_wp2_with ((try rw[h]);at_builtin;refine Zdo _ rfl (.tmp 10) (.tmp 12) 35 rfl w.heap.size 41 iF Tryz.underlying35 hi U a0 a1 _ _ rfl o _ (some ⟨w1.heap.size,0,none⟩) 1 1 [⟨xn,xA,xk,xc,xm,xB,xj,xd,0⟩] rfl (Zb7 _ T) rfl (by intro e he;rw[QB]at he;subst he;exact V) Gg I ?_;intro v2 w5 J a3 a4);have a2:=O.grown a3 I (λk hk=>o.row_ge k hk);simp only[Qt,Qv]at J
   go_roundg (n-(i+1))
   case measure=>omega
   case rel=>exact⟨i+1,by omega,by go_num,a2,by rw[List.replicate_succ'];exact J⟩
theorem IL{G:Prop}(h:G:=by
 go_wp2_with fail;go_ret;exact⟨rfl,dg.trans ((Gs ao fh).mono dg.size)⟩):G:=h
theorem IW{G:Prop}(h:G:=by
 go_wp2_with fail
 go_roundg (j-(k+1))
 case measure=>omega
 case rel=>exact⟨k+1,by omega,by go_num,eT,aJ.out⟩):G:=h
theorem Ir{G:Prop}(h:G:=by
 go_wp2_with fail
 go_roundg (n-(i+1))
 case measure=>omega
 case rel=>exact⟨i+1,by omega,by go_num,ay,Gs bV aa⟩):G:=h
theorem Zqv(A:Option Addr)(n c:Nat)(rs:List RX)(w:World)(h:MXL w A n c rs)(hF:FacC rs)(E:Int)(hE:Za2 rs=E) :
    Calls Tryz.prog 16 #[.slice A n c] w λe w'=>e=.returned (.int .i64 E)/\Below w.heap.size w w':=by
 have hmx:=Gt;have hl:=Zb h.1;have c5:=h.2.1;have b6:=h.2.2.1;unfold maxLen at b6;replace hE:=Zb hE;by_cases h6:6<n
 ·have t1:decide ((6:Int)<(n:Int))=true:=Gv Gk
  obtain rfl:E=4:=by rw[<- hE.out];exact Zfz (by unfold long6;rw[hl.out,Gv h6];rfl)
  clear h;go_in;exact Fo
 have t1:decide ((6:Int)<(n:Int))=false:=Gu Gk;have hH:=Zb h;clear h;go_in;go_wp2_with fail
 go_loopg [3] n (λt iv wr=>∃ i:Nat,i+t=n/\iv=.int .i64 i/\Hid (∀ j r,j<i->rs[j]?=some r->r.long6=false)/\Below w.heap.size w wr)
 case atStart=>exact⟨0,by omega,rfl,Zb (λj r hj=>by omega),Qa _ _⟩
 case round =>
  obtain⟨w1,rfl⟩:=Gy wr;obtain⟨i,b8,rfl,C,T⟩:=hrel;cases gk with
  | succ t =>
   obtain rfl:t=n-(i+1):=Gk;have a7:i<n:=Gk;have t2:decide ((i:Int)<(n:Int))=true:=Gv Gk;have bi:(i:Int)<(n:Int):=Gk;obtain⟨g,o,r,rfl,he,c0,hL⟩:=(hH.out.below T).at_ a7;have U:=hL.nlenC;unfold maxLen at U;clear hL;by_cases hx:6<r.n
   ·have t3:decide ((6:Int)<(r.n:Int))=true:=Gv Gk
    obtain rfl:E=4:=by
     rw[<- hE.out];refine Zfz ?_;unfold long6;have:rs.any RX.long6=true:=List.any_eq_true.2 ⟨r,Qf he,by unfold RX.long6;exact Gv hx⟩;rw[this,Bool.or_true]
    replace he:=Zb he;replace hx:=Zb hx;go_wp2_with fail;go_ret;exact⟨rfl,T⟩
   have t3:decide ((6:Int)<(r.n:Int))=false:=Gu Gk
   have ay:Hid (∀ j r',j<i+1->rs[j]?=some r'->r'.long6=false):=Zb (λj r' hj he'=>by
    rcases Qh j i with h'|h';exact C.out j r' h' he';obtain rfl:j=i:=Gk;rw[he]at he';cases he';unfold RX.long6;exact Gu hx)
   replace he:=Zb he;replace hx:=Zb hx;go_wp2_with fail
   go_roundg (n-(i+1))
   case measure=>omega
   case rel=>exact⟨i+1,by omega,by go_num,ay,T⟩
  | zero =>
   obtain rfl:n=i:=Gk;have t2:decide ((n:Int)<(n:Int))=false:=Gh
   have a6:Hid (long6 rs=false):=Zb (by
    unfold long6;rw[hl.out,Gu h6,Bool.false_or,List.any_eq_false];intro r hr;obtain⟨j,hj,e⟩:=Qr hr;have:=C.out j r (by rw[hl.out]at hj;exact hj) (by rw[Qg hj,e]);rw[this];decide)
   by_cases u:n=0
   ·have t3:((n:Int) == 0)=true:=by simp[u]
    have b3:decide (n=0)=true:=by simpa using u
    obtain rfl:E=8:=by rw[<- hE.out];exact Zr3 a6.out (by rw[hl.out];exact u)
    replace u:=Zb u;go_wp2_with fail;go_ret;exact⟨rfl,T⟩
   have t3:((n:Int) == 0)=false:=by simp;omega
   have b3:decide (n=0)=false:=by simpa using u
   replace u:=Zb u;replace h6:=Zb h6;go_wp2_with fail
   go_loopg [4] n (λt iv wr=>∃ i:Nat,i+t=n/\iv=.int .i64 i/\Hid (∀ j r,j<i->rs[j]?=some r->Zc6 rs.length r=true)/\Below w.heap.size w wr)
   case atStart=>exact⟨0,by omega,rfl,Zb (λj r hj=>by omega),T⟩
   case round =>
    clear T C;obtain⟨wi,rfl⟩:=Gy wr;obtain⟨i,b8,rfl,C,bV⟩:=hrel;cases gk with
    | succ t =>
     obtain rfl:t=n-(i+1):=Gk;have a7:i<n:=Gk;have t4:decide ((i:Int)<(n:Int))=true:=Gv Gk;have bi:(i:Int)<(n:Int):=Gk;obtain⟨g,o,r,rfl,he,c0,hL⟩:=(hH.out.below bV).at_ a7;have U:=hL.nlenC;unfold maxLen at U;have bad:Hid (Zc6 rs.length r=false->Za2 rs=8):=Zb (λhf=>Zrm a6.out (by rw[hl.out];exact u.out) (Qf he) hf)
     have good:Hid (Zc6 rs.length r=true->∀ j r',j<i+1->rs[j]?=some r'->Zc6 rs.length r'=true):=Zb (λhf j r' hj he'=>by
      rcases Qh j i with h'|h';exact C.out j r' h' he';obtain rfl:j=i:=Gk;rw[he]at he';cases he';exact hf)
     replace he:=Zb he;by_cases hq:r.n=n
     case neg =>
      have t5:((r.n:Int) == (n:Int))=false:=beq_eq_false_iff_ne.2 Gk;have b4:((r.n:Int) != (n:Int))=true:=by rw[bne,t5];rfl
      have b1:decide (r.n=n)=false:=by simpa using hq
      obtain rfl:E=8:=by rw[<- hE.out];exact bad.out (by unfold Zc6;rw[hl.out,Gu hq];rfl)
      replace hq:=Zb hq;clear hL;go_wp2_with fail;go_ret;exact⟨rfl,bV⟩
     have t5:((r.n:Int) == (n:Int))=true:=beq_iff_eq.2 Gk;have b4:((r.n:Int) != (n:Int))=false:=by rw[bne,t5];rfl
     have b1:decide (r.n=n)=true:=by simpa using hq
     obtain⟨y,hy⟩:=Gz (Zci r.es);have hV:=Zb (λW1 (hb:Below wi.heap.size wi W1)=>Zov r.A r.n r.c r.es W1 (hL.below hb) y hy);have b7:=Zb hq;replace hq:=Zb hq;clear hL;cases y
     ·obtain rfl:E=8:=by rw[<- hE.out];exact bad.out (by unfold Zc6;rw[hy];simp)
      clear hy;go_wp2_with fail;refine(hV.out _ (by first|exact Qa _ _|exact Zf (Qa _ _) _)).mono ?_;rintro e' w2 ⟨rfl,aa⟩;go_wp2_with fail;go_ret;exact⟨rfl,Gs bV aa⟩
     have ay:=Zb (good.out (by unfold Zc6;rw[hy,hl.out,b7.out,Gv rfl];rfl));clear hy;go_wp2_with fail;refine(hV.out _ (by first|exact Qa _ _|exact Zf (Qa _ _) _)).mono ?_;rintro e' w2 ⟨rfl,aa⟩;exact Ir
    | zero =>
     obtain rfl:n=i:=Gk;have t4:decide ((n:Int)<(n:Int))=false:=Gh
     have hV:Hid (covV rs):=Zb ⟨a6.out,by rw[hl.out];exact u.out,by
      rw[Qx];intro r hr;obtain⟨j,hj,e⟩:=Qr hr;exact C.out j r (by rw[hl.out]at hj;exact hj) (by rw[Qg hj,e])⟩
     have hM:=Zb (hV.out.good (hH.out.below bV));have c6:Hid (∀ a b,Sm (Zh (qM rs) a b)):=Zb (λa b=>(hV.out.small64 hH.out).smC Gj a b);have f:Hid (∀ a,a<n->((qM rs)[a]?.getD []).length=n):=Zb (λa ha=>hV.out.row hH.out a ha);go_wp2_with fail
     go_loopg [5] n (λt jv wr=>∃ j:Nat,j+t=n/\jv=.int .i64 j/\Hid (∀ a b,a<j->b<a->Zh (qM rs) a b=Zh (qM rs) b a)/\Below wi.heap.size wi wr)
     case atStart=>exact⟨0,by omega,rfl,Zb (λa b ha=>by omega),Qa _ _⟩
     case round =>
      obtain⟨wj,rfl⟩:=Gy wr;obtain⟨j,c4,rfl,a9,O⟩:=hrel;have dg:=Gs bV O;cases gk with
      | zero =>
       obtain rfl:n=j:=Gk;have t5:decide ((n:Int)<(n:Int))=false:=Gh
       have hs:Hid (Zhg (qM rs)=true):=Zb (by
        unfold Zhg;rw[decide_eq_true_eq];intro a ha b hb;rw[show (qM rs).length=n by unfold qM;rw[Ql,hl.out]]at ha;exact a9.out a b ha hb)
       have b0:Hid (FacP (Zh (qM rs)) n):=Zb (by have:=hF hV.out hs.out;rw[hl.out]at this;exact this);go_wp2_with fail;refine(Zsb n wj (by have:=h6.out;omega)).mono ?_;rintro e w5 ⟨v,rfl,ao,hO⟩;obtain⟨zA,zc,rfl,hz⟩:=hO.fl;have U:(Qd n (0:Rat)).length=n:=Gh;rw[U]at hz ⊢;replace hz:=Zb hz;clear hO;go_wp2_with fail;refine(Zqx A n c (qM rs) zA zc _ w5 (hM.out.below (Gs O ao)) hz.out (by have:=u.out;omega) (by have:=h6.out;omega) f.out (λt i k ht hp hi=>?_) (λi k hk hi hp=>?_) (λ_ _=>0) (λ_=>Zsz f.out)).mono ?_
       ·rw[Zta f.out ht hi]
        split
        rename_i h1;exact b0.out.s t i k ht ((Zin f.out ht).1 hp) hi h1;exact SmN.zeroC 379 379
       ·rw[wide0_l f.out hi Gk]
        exact b0.out.l i k hk hi ((Zin f.out Gk).1 hp)
       rintro e w6 ⟨fh,⟨hp,B,c',rfl,-⟩|⟨hp,rfl⟩⟩
       ·obtain rfl:E=0:=by rw[<- hE.out];exact hV.out.pos hs.out (by rw[hl.out];exact(Zin f.out (Qb _)).1 hp)
        exact IL
       obtain rfl:E=8:=by rw[<- hE.out];exact hV.out.neg hs.out (by rw[hl.out];exact λh=>hp ((Zin f.out (Qb _)).2 h))
       exact IL
      | succ t =>
       obtain rfl:t=n-(j+1):=Gk;have a2:j<n:=Gk;have t5:decide ((j:Int)<(n:Int))=true:=Gv Gk;have bj:(j:Int)<(n:Int):=Gk;go_wp2_with fail
       go_loopg [6] j (λt kv wr=>∃ k:Nat,k+t=j/\kv=.int .i64 k/\Hid (∀ b,b<k->Zh (qM rs) j b=Zh (qM rs) b j)/\Below wj.heap.size wj wr)
       case atStart=>exact⟨0,by omega,rfl,Zb (λb hb=>by omega),Qa _ _⟩
       case round =>
        obtain⟨wk,rfl⟩:=Gy wr;obtain⟨k,c1,rfl,a8,V⟩:=hrel;cases gk with
        | zero =>
         obtain rfl:j=k:=Gk;have t6:decide ((j:Int)<(j:Int))=false:=Gh
         have b2:Hid (∀ a b,a<j+1->b<a->Zh (qM rs) a b=Zh (qM rs) b a):=Zb (λa b ha hb=>by
          rcases Qh a j with h'|h';exact a9.out a b h' hb;obtain rfl:a=j:=Gk;exact a8.out b hb)
         go_wp2_with fail
         go_roundg (n-(j+1))
         case measure=>omega
         case rel=>exact⟨j+1,by omega,by go_num,b2,Gs O V⟩
        | succ t' =>
         obtain rfl:t'=j-(k+1):=Gk;have c3:k<j:=Gk;have t6:decide ((k:Int)<(j:Int))=true:=Gv Gk;have bk:(k:Int)<(j:Int):=Gk;have bki:(k:Int)<(n:Int):=Gk;have a4:=Gs O V;obtain⟨g,o,A',n',c',rfl,c0,hR⟩:=(hM.out.below a4).at_ a2;have b5:n=n':=by rw[<- hR.len];exact(f.out j a2).symm
         subst b5;have a5:=hR.cap;unfold maxLen at a5;obtain⟨ga,oa,xn,xA,xk,xc,xm,xB,xj,xd,rfl,⟨r0,r1,r2,r3⟩,hX⟩:=hR.at_ (show k<n by omega);obtain⟨A2,n2,c2,ck,a0⟩:=(hM.out.below a4).atS (show k<n by omega);have b9:n=n2:=by rw[<- a0.len];exact(f.out k Gk).symm
         subst b9;have Y:=a0.cap;unfold maxLen at Y;obtain⟨gb,ob,yn,yA,yk,yc,ym,yB,yj,yd,rfl,⟨s0,s1,s2,s3⟩,hY⟩:=a0.at_ a2;have eX:((qM rs)[j]?.getD [])[k]?.getD 0=Zh (qM rs) j k:=rfl;have eY:((qM rs)[k]?.getD [])[j]?.getD 0=Zh (qM rs) k j:=rfl;rw[eX]at hX;rw[eY]at hY;replace hX:=Zb hX;replace hY:=Zb hY;clear eX eY a0 hR;go_wp2_with fail;obtain⟨X0,a3⟩:=Gz wk.drew;have J:Below wk.heap.size wk X0:=by rw[<- a3];exact Zf (Qa _ _) 1
         have I:Hid (∀ wx,Below wk.heap.size wk wx->wx.cell? ⟨g,o+j,none⟩=some (.slice (some ⟨ga,oa,none⟩) n c')/\wx.cell? ⟨ga,oa+k*4,none⟩=some (.bool xn)/\wx.cell? ⟨ga,oa+k*4+1,none⟩=some (.slice xA xk xc)/\wx.cell? ⟨ga,oa+k*4+2,none⟩=some (.bool xm)/\wx.cell? ⟨ga,oa+k*4+3,none⟩=some (.slice xB xj xd)/\wx.cell? ⟨g,o+k,none⟩=some (.slice (some ⟨gb,ob,none⟩) n c2)/\wx.cell? ⟨gb,ob+j*4,none⟩=some (.bool yn)/\wx.cell? ⟨gb,ob+j*4+1,none⟩=some (.slice yA yk yc)/\wx.cell? ⟨gb,ob+j*4+2,none⟩=some (.bool ym)/\wx.cell? ⟨gb,ob+j*4+3,none⟩=some (.slice yB yj yd)):=Zb (λwx hbx=>⟨Za hbx c0,Za hbx r0,Za hbx r1,Za hbx r2,Za hbx r3,Za hbx ck,Za hbx s0,Za hbx s1,Za hbx s2,Za hbx s3⟩);refine wp_heldS [] hmx I (by rw[a3];exact J) (λhxs=>?_);rw[a3];refine Zj9 14 [0,1,2,3,4,5,6,7,8,9,10,11,12,13] rfl Gi (I.out _ J) ?_
         iterate 14 (refine tkA ?_;try simp only[Qc,Zhb,Zgo,Zg6,Gr,Gq,Gp])
         refine tk0 ?_;obtain⟨z,hz⟩:∃ z,decide (Zh (qM rs) j k=Zh (qM rs) k j)=z:=⟨_,rfl⟩;refine wpAnyL_o 14 λK hK=>?_;go_simp;refine(Zjp xn xm yn ym xA xB yA yB xk xc xj xd yk yc yj yd _ _ X0 (hX.out.below J) (hY.out.below J) z hz).mono ?_;rintro e w5 ⟨rfl,ao⟩;have a1:=Gs J ao;refine hK.out _ _ (λ_=>I.out _ a1) ?_;clear hK K
         try simp only[Qc,Zhb,Zgo,Zg6]
         refine Zgp 1 [15] rfl Gi (I.out _ a1) ?_
         (refine tkA ?_;try simp only[Qc,Zhb,Zgo,Zg6,Gr,Gq,Gp])
         refine tk0 ?_;refine wpAnyL_fin ?_;have aJ:Hid (Below wj.heap.size wj w5):=Zb (Gs V a1);clear I hxs J a1 ao a3 r0 r1 r2 r3 s0 s1 s2 s3 ck c0 hX hY;cases z
         ·obtain rfl:E=8:=by
            rw[<- hE.out];refine hV.out.asym ?_;cases hb:Zhg (qM rs)with
            | false=>rfl
            | true=>exact absurd (symB_iff.1 hb j k (by unfold qM;rw[Ql,hl.out];exact a2) (by unfold qM;rw[Ql,hl.out];omega)) (of_decide_eq_false hz)
          replace hz:=Zb hz;go_wp2_with fail;go_ret;exact⟨rfl,Gs dg aJ.out⟩
         have eT:Hid (∀ b,b<k+1->Zh (qM rs) j b=Zh (qM rs) b j):=Zb (λb hb=>by
           rcases Qh b k with h'|h';exact a8.out b h';obtain rfl:b=k:=Gk;exact of_decide_eq_true hz)
         replace hz:=Zb hz;exact IW
theorem Ztl(z:Int):Rat.divInt z 1=(z:Rat):=by
 exact FG
theorem Zux(z:Int)(w:World)(h1:-9223372036854775808<=z)(h2:z<=9223372036854775807) :
    Calls Tryz.prog 44 #[.int .i64 z] w (Zdt w (z:Rat)):=by
 obtain⟨W0,h,aq,q0,s0⟩:=Zan w 73 #[.bool false,.slice none 0 0,.bool false,.slice none 0 0];obtain⟨gR,f⟩:=Gz w.heap.size;rw[f]at q0;go_in;go_wp2_with fail;(try rw[h]);refine(Zrh z 1 W0 h1 h2 Gj Gj).mono ?_;rw[Ztl];rintro e w1 ⟨ab,pn,pA,pk,pc,pm,pB,pj,pd,rfl,hf⟩;replace q0:=Zc ab q0;go_wp2_with fail;refine(Zf7 pn pm pA pB pk pc pj pd _ w1 hf).mono ?_;rintro e w2 ⟨aa,rn,rA,rk,rc,rm,rB,rj,rd,rfl,hr⟩;replace q0:=Zc aa q0;(try rw[f]);obtain⟨c0,c1,c2,c3,z0,z1,z2,z3⟩:=q0.four;obtain⟨W5,o,q5,aK,s5⟩:=Za0 rn rA rk rc rm rB rj rd q0;clear hf;go_wp2_with fail;(try rw[o]);obtain⟨r0,r1,r2,r3,-⟩:=q5.four;refine bodyPost_ret (v:=.agg #[.bool rn,.slice rA rk rc,.bool rm,.slice rB rj rd]) (by simp[results,Tryz.results44,go_sem,r0,r1,r2,r3]) rfl ?_;refine⟨?_,_,_,_,_,_,_,_,_,rfl,hr.keptN aK q0 (Zbh _ _ _ _ _ _ _ _)⟩;exact Fg
theorem Zza(z:Int)(w:World) :
    Calls Tryz.prog 161 #[.int .i64 z,.int .i64 0] w λe w'=>e=.returned (.int .i64 z)/\w'=w:=by
 go_in;go_wp2_with fail;refine(Zb9 0 w).mono ?_;rintro e w1 ⟨rfl,rfl⟩;go_wp2_with fail;go_returns;exact⟨rfl,rfl⟩
theorem Zy6(na:Bool)(A:Option Addr)(n c:Nat)(z:Int)(w:World)(hz:Wd w na A n c z) :
    Calls Tryz.prog 162 #[.agg #[.bool na,.slice A n c]] w λe w'=>e=.returned (.tuple #[.int .i64 (Zcr z 0),.int .i64 0])/\Below w.heap.size w w':=by
 obtain⟨r,hr⟩:=Gz (Zcr z 0);rw[hr];obtain⟨W0,o,hB,q,sz⟩:=Zan w 39 #[.bool na,.slice A n c];replace hz:=Zb (hz.below hB);obtain⟨s0,s1,-,-⟩:=q.two;go_in;go_wp2_with fail;refine(Zrc na false A none n c 0 0 z 0 W0 hz.out (Wd.zero _)).mono ?_;rintro e w1 ⟨rfl,h⟩;have f:=Gs hB h;rw[hr];replace hr:=Zb hr;go_wp2_with fail;go_returns;exact⟨rfl,f⟩
theorem Zh6(xn:Bool)(xA:Option Addr)(xk xc:Nat)(xm:Bool)(xB:Option Addr)(xj xd:Nat)(q:Rat)(w:World)(h:Fr w xn xA xk xc xm xB xj xd q) :
    Calls Tryz.prog 118 #[.agg #[.bool xn,.slice xA xk xc,.bool xm,.slice xB xj xd]] w λe w'=>e=.returned (.int .i64 (Zcr q.num 0))/\Below w.heap.size w w':=by
 obtain⟨W0,o,f,q0,s0⟩:=Zan w 73 #[.bool xn,.slice xA xk xc,.bool xm,.slice xB xj xd];obtain⟨a0,a1,a2,a3,-⟩:=q0.four;have hX:=h.below f;go_in;go_wp2_with fail;(try rw[o]);refine(Zy6 xn xA xk xc q.num W0 hX.1).mono ?_;rintro e w1 ⟨rfl,u⟩;go_wp2_with fail;refine(Zza _ w1).mono ?_;rintro e w2 ⟨rfl,rfl⟩;go_wp2_with fail;go_returns;exact⟨rfl,Gs f u⟩
def Zi0(a:Rat)(qs:List Rat):Nat->Rat
 | 0=>a
 | j+1=>Zi0 a qs j*(qs[j]?.getD 0)
def sumF(qs:List Rat):Nat->Rat
 | 0=>0
 | j+1=>sumF qs j+(qs[j]?.getD 0)
theorem IC{G:Prop}(h:G:=by
 exact cD.trans (aK.to_below (λk e=>by omega) (by have:=cD.size;have:=hK.size;omega))):G:=h
theorem IT{G:Prop}(h:G:=by
 go_roundg (k-(i+1))
 case measure=>omega
 case rel=>exact⟨i+1,_,_,_,_,_,_,_,_,by omega,by go_num,q5,ir,iw⟩):G:=h
theorem Zcf(an:Bool)(aA:Option Addr)(ak ac:Nat)(am:Bool)(aB:Option Addr)(aj ad:Nat)(a:Rat)(L:Option Addr)(k cap:Nat)(qs:List Rat)(w:World)(ha:Fr w an aA ak ac am aB aj ad a)(hl:FL w L k cap qs)(hk:k<=100)(hs:∀ j,j<k->Sm (Zi0 a qs j))(he:∀ j:Nat,j<k->Sm (qs[j]?.getD 0)) :
    Calls Tryz.prog 45 #[.agg #[.bool an,.slice aA ak ac,.bool am,.slice aB aj ad],.slice L k cap] w (Zdt w (Zi0 a qs k)):=by
 have a1:=hl.cap;unfold maxLen at a1;obtain⟨W0,a2,Y,⟨q0,q1⟩,s0⟩:=Zdb w 73 #[.bool an,.slice aA ak ac,.bool am,.slice aB aj ad] 73 #[.bool false,.slice none 0 0,.bool false,.slice none 0 0];obtain⟨g0,h⟩:=Gz w.heap.size;obtain⟨gR,I⟩:=Gz (g0+1);rw[h]at q0 q1 s0 Y;rw[I]at q1;have hA:=ha.below (h▸Y);have a5:Hid (W0.heap.size=gR+1):=Zb (by rw[s0];omega);have a7:=Zb hl;have b0:=Zb hs;have b2:=Zb he;have O:=Zb h;clear hl hs he;go_in;go_wp2_with fail;(try rw[a2]);(try rw[h]);(try rw[I]);have a3:=Zb I;clear a2 h I
 go_loopg [9] k (λt iv wr=>∃ (i:Nat) (xn:Bool) (xA:Option Addr) (xk xc:Nat) (xm:Bool) (xB:Option Addr) (xj xd:Nat),i+t=k/\iv=.int .i64 i/\Blk wr g0 73 #[.bool xn,.slice xA xk xc,.bool xm,.slice xB xj xd]/\Hid (Fr wr xn xA xk xc xm xB xj xd (Zi0 a qs i))/\Kept (λk=>k=g0) W0 wr)
 case atStart=>exact⟨0,_,_,_,_,_,_,_,_,by omega,rfl,q0,Zb hA,Qs _ _⟩
 case round =>
  obtain⟨i,xn,xA,xk,xc,xm,xB,xj,xd,d0,rfl,U,hX,hK⟩:=hrel;have b6:=a5.out;have b4:=a3.out;have T:=hK.blk q1 Gk;have cD:Below g0 w wr:=Y.trans (hK.to_below (λk hk=>by omega) Gk);obtain⟨x0,x1,x2,x3,y0,y1,y2,y3⟩:=U.four;cases gk with
  | zero =>
   obtain rfl:i=k:=Gk;have t1:decide ((i:Int)<(i:Int))=false:=Gh;obtain⟨c0,c1,c2,c3,z0,z1,z2,z3⟩:=T.four;obtain⟨W5,V,q5,aK,s5⟩:=Za0 xn xA xk xc xm xB xj xd T;go_wp2_with fail;(try rw[V]);obtain⟨r0,r1,r2,r3,-⟩:=q5.four;refine bodyPost_ret (v:=.agg #[.bool xn,.slice xA xk xc,.bool xm,.slice xB xj xd]) (by simp[results,Tryz.results45,go_sem,r0,r1,r2,r3]) rfl ?_;refine⟨?_,_,_,_,_,_,_,_,_,rfl,hX.out.keptN aK T (Zbh _ _ _ _ _ _ _ _)⟩;rw[O.out];exact IC
  | succ t =>
   obtain rfl:t=k-(i+1):=Gk;have a0:i<k:=Gk;have t1:decide ((i:Int)<(k:Int))=true:=Gv Gk;have bi:(i:Int)<(k:Int):=Gk;obtain⟨gl,o,yn,yA,yk,yc,ym,yB,yj,yd,rfl,⟨c0,c1,c2,c3⟩,hY⟩:=(a7.out.below (O.out▸cD)).at_ a0;obtain⟨W1,c6,f,p1,s1⟩:=Zan wr 73 #[.bool false,.slice none 0 0,.bool false,.slice none 0 0];obtain⟨gn,a6⟩:=Gz wr.heap.size;rw[a6]at p1 s1;have b5:=Zc f U;obtain⟨u0,u1,u2,u3,v0,v1,v2,v3⟩:=p1.four;obtain⟨W2,a9,p2,b3,s2⟩:=Za0 yn yA yk yc ym yB yj yd p1;have C:Below wr.heap.size wr W2:=f.trans (b3.to_below (λk e=>by omega) f.size);have a8:=hX.out.below C;have b1:=hY.below C;have J:=Zc C U;obtain⟨m0,m1,m2,m3,n0,n1,n2,n3⟩:=J.four;obtain⟨o0,o1,o2,o3,-⟩:=p2.four;have e0:=Za f c0;have e1:=Za f c1;have e2:=Za f c2;have e3:=Za f c3;go_wp2_with fail;(try rw[a9]);go_wp2_with fail;refine(Zwt xn xm yn ym xA xB yA yB xk xc xj xd yk yc yj yd _ _ W2 a8 b1 (b0.out i a0) (b2.out i a0)).mono ?_;rintro e w3 ⟨u,pn,pA,pk,pc,pm,pB,pj,pd,rfl,hf⟩;go_wp2_with fail;refine(Zf7 pn pm pA pB pk pc pj pd _ w3 hf).mono ?_;rintro e w4 ⟨a4,rn,rA,rk,rc,rm,rB,rj,rd,rfl,hr⟩;have y:=Zc a4 (Zc u J);obtain⟨b7,c7,c4,c9,c5,b8,b9,c8⟩:=y.four;obtain⟨W5,V,q5,aK,s5⟩:=Za0 rn rA rk rc rm rB rj rd y;clear x0 x1 x2 x3 y0 y1 y2 y3 m0 m1 m2 m3 n0 n1 n2 n3 o0 o1 o2 o3 u0 u1 u2 u3 v0 v1 v2 v3 e0 e1 e2 e3 c0 c1 c2 c3;go_wp2_with fail;(try rw[V]);have ir:=Zb (hr.keptN aK y (Zbh _ _ _ _ _ _ _ _));have iw:Kept (λk=>k=g0) W0 W5:=((hK.below C).below (Gs u a4)).trans aK;exact IT
theorem Znm(na nb na' nb':Bool)(A B A' B':Option Addr)(n c m d n' c' m' d':Nat)(a b:Rat)(w:World)(ha:Fr w na A n c nb B m d a)(hb:Fr w na' A' n' c' nb' B' m' d' b)(sa:Sm a)(sb:Sm b)(h0:b≠0) :
    Calls Tryz.prog 67 #[.agg #[.bool na,.slice A n c,.bool nb,.slice B m d],.agg #[.bool na',.slice A' n' c',.bool nb',.slice B' m' d']] w (Zdt w (a/b)):=by
 obtain⟨W0,h,aq,⟨q0,q1,q2⟩,s0⟩:=Zcd w 73 #[.bool na,.slice A n c,.bool nb,.slice B m d] 73 #[.bool na',.slice A' n' c',.bool nb',.slice B' m' d'] 73 #[.bool false,.slice none 0 0,.bool false,.slice none 0 0];obtain⟨a0,a1,a2,a3,-⟩:=q0.four;obtain⟨b0,b1,b2,b3,-⟩:=q1.four;obtain⟨gR,f⟩:=Gz (w.heap.size+1+1);rw[f]at q2;have hA:=ha.below aq;have hD:=hb.below aq;go_in;go_wp2_with fail;(try rw[h]);refine(Zsk na nb na' nb' A B A' B' n c m d n' c' m' d' a b W0 hA hD sa sb h0).mono ?_;rintro e w1 ⟨ab,pn,pA,pk,pc,pm,pB,pj,pd,rfl,hf⟩;replace q2:=Zc ab q2;clear a0 a1 a2 a3 b0 b1 b2 b3 q0 q1 hA hD;go_wp2_with fail;refine(Zf7 pn pm pA pB pk pc pj pd _ w1 hf).mono ?_;rintro e w2 ⟨aa,rn,rA,rk,rc,rm,rB,rj,rd,rfl,hr⟩;replace q2:=Zc aa q2;(try rw[f]);obtain⟨c0,c1,c2,c3,z0,z1,z2,z3⟩:=q2.four;obtain⟨W5,o,q5,aK,s5⟩:=Za0 rn rA rk rc rm rB rj rd q2;clear hf;go_wp2_with fail;(try rw[o]);obtain⟨r0,r1,r2,r3,-⟩:=q5.four;refine bodyPost_ret (v:=.agg #[.bool rn,.slice rA rk rc,.bool rm,.slice rB rj rd]) (by simp[results,Tryz.results67,go_sem,r0,r1,r2,r3]) rfl ?_;exact CE
