/- Reference of covar: solve. Reference of covar: zeros, -/
import Derived.Deep.LoopGhost
import Derived.Test.YthappeninglakaaGreatZa21
set_option maxRecDepth 100000
set_option maxHeartbeats 16000000
set_option linter.unusedSimpArgs false
set_option linter.unusedVariables false
namespace Go.Proofs.YthappeninglakaaGreat
open Go.RowKit
open Nat renaming le_refl→Qa,lt_or_ge→Qh,le_trans→Qn,zero_le→Qp,zero_add→Qr,lt_of_le_of_lt→QB
open List renaming replicate→Qb,getElem?_eq_none→Qd,getElem?_eq_getElem→Qf,length_map→Qg,mem_of_getElem?→Qi,getElem?_map→Qj,getElem?_set→Qk,getElem?_range→Ql,getElem_of_mem→Qm,range→Qo,map_cons→Qt,map_nil→Qu,length_set→Qv,nil_append→Qw,length_append→Qz,mem_singleton→QA,ext_getElem?→QC
open Below renaming refl→Qc
open Act renaming put→Qe
open Blk renaming new→Qq
open Option renaming map_some→Qs,getD_some→QD
open Kept renaming refl→Qx
open Rat renaming mul_assoc→Qy
attribute [local go_sem] Zi
theorem Zyq{w:World}{t:TypeId}{g:Nat}{A:Option Addr}{n c:Nat}(h:Blk w g t #[.slice A n c]):Reads w (g+1) 1 (some ⟨g,0,none⟩) 1 (Zar [⟨A,n,c⟩]):=
 ⟨rfl,λ_=>⟨_,rfl,Nat.lt_succ_self _,λj u hu=>by
  rw[Zi,Qr,h.cell];simpa [Zar]using hu⟩⟩
def Zcr(Q:List (List Rat))(xs:List Rat)(n:Nat):List (List Rat):=(Qo n).map λi=>Q[i]?.getD [] ++ [xs[i]?.getD 0]
section
variable{Q:List (List Rat)}{xs:List Rat}{n:Nat}
theorem Zlj:(Zcr Q xs n).length=n:=by simp[Zcr]
theorem Zng{i:Nat}(h:i<n):(Zcr Q xs n)[i]?.getD []=Q[i]?.getD [] ++ [xs[i]?.getD 0]:=by simp[Zcr,h]
theorem Zyl{i:Nat}(h:i<n):(Zcr Q xs n)[i]?=some (Q[i]?.getD [] ++ [xs[i]?.getD 0]):=by simp[Zcr,h]
theorem Zpo(hm:∀ i,i<n->(Q[i]?.getD []).length=n){i:Nat}(h:i<n):((Zcr Q xs n)[i]?.getD []).length=n+1:=by rw[Zng h,Qz,hm i h];rfl
theorem Zy7(hm:∀ i,i<n->(Q[i]?.getD []).length=n){i k:Nat}(h:i<n)(hk:k<n):Zj (Zcr Q xs n) i k=Zj Q i k:=by
 unfold Zj;rw[Zng h,List.getElem?_append_left (by rw[hm i h];exact hk)]
theorem Zuv(hm:∀ i,i<n->(Q[i]?.getD []).length=n){i:Nat}(h:i<n):Zj (Zcr Q xs n) i n=xs[i]?.getD 0:=by
 unfold Zj;rw[Zng h,List.getElem?_append_right (by rw[hm i h];exact Qa _),hm i h,Nat.sub_self];rfl
theorem Zvo(hm:∀ i,i<n->(Q[i]?.getD []).length=n){i k:Nat}(h:i<n)(hk:n<k):Zj (Zcr Q xs n) i k=0:=by
 unfold Zj;rw[Qd (by rw[Zpo hm h];omega)];rfl
end
section
variable{R:List (List Rat)}{n m:Nat}
theorem Zsw(hrow:∀ i,i<R.length->(R[i]?.getD []).length=m){r c i j:Nat}(hi:i<R.length)(hr:r<R.length)(hj:c<=j) :
    Zj (Zbv R r c) i j=if i<=r then Zj R i j else Zj R i j-Zj R i c/Zj R r c*Zj R r j:=by
 unfold Zbv;show ((List.map _ (Qo R.length))[i]?.getD [])[j]?.getD 0=_;rw[Qj,Ql hi];simp only[Qs,QD];by_cases h1:i<=r;rw[Gx h1,Gx h1];rfl;rw[Gw h1,Gw h1];unfold Zoi;rw[Qj];by_cases hjl:j<(R[i]?.getD []).length
 ·rw[Ql hjl]
  simp only[Qs,QD];rw[Gw Gk];rfl
 rw[Qd (l:=Qo _) (by simpa using hjl)];simp only[Option.map_none,Option.getD_none];have e1:Zj R i j=0:=by unfold Zj;rw[Qd Gk];rfl
 have e2:Zj R r j=0:=by unfold Zj;rw[Qd (by rw[hrow i hi]at hjl;rw[hrow r hr];omega)];rfl
 rw[e1,e2];grind
theorem Zru(hrow:∀ i,i<R.length->(R[i]?.getD []).length=m){r c i:Nat}(hi:i<R.length):((Zbv R r c)[i]?.getD []).length=m:=by
 rw[Zji hi]
 split
 exact hrow i hi;unfold Zoi;rw[Qg,List.length_range];exact hrow i hi
theorem Zk5(hrow:∀ i,i<R.length->(R[i]?.getD []).length=m):∀ t i,i<R.length->((Zfs R t)[i]?.getD []).length=m
 | 0,i,hi=>hrow i hi
 | t+1,i,hi=>Zru (R:=Zfs R t) (λi hi=>Zk5 hrow t i (by rw[Zhx]at hi;exact hi)) (by rw[Zhx];exact hi)
theorem Ze4(hl:R.length=n)(hrow:∀ i,i<R.length->(R[i]?.getD []).length=m):∀ t,t<=n->∀ i k,i<n->min t i<=k->Zj (Zfs R t) i k=Zu (Zj R) t i k
 | 0,_,_,_,_,_=>rfl
 | t+1,ht,i,k,hi,hk=>by
  show Zj (Zbv (Zfs R t) t t) i k=if t<i then _ else _
  have hL:(Zfs R t).length=n:=by rw[Zhx,hl]
  have hR:∀ i,i<(Zfs R t).length->((Zfs R t)[i]?.getD []).length=m:=λi hi=>Zk5 hrow t i (by rw[Zhx]at hi;exact hi);by_cases hti:t<i
  ·have e:t+1<=k:=Gk
   rw[Gx hti,Zsw hR (by rw[hL];exact hi) (by rw[hL];omega) Gk,Gw Gk,
    Ze4 hl hrow t Gk i k hi Gk,Ze4 hl hrow t Gk i t hi Gk,Ze4 hl hrow t Gk t t Gk Gk,Ze4 hl hrow t Gk t k Gk Gk]
  rw[Gw hti];have f:i<=k:=Gk
  have:Zj (Zbv (Zfs R t) t t) i k=Zj (Zfs R t) i k:=by
   unfold Zj;rw[Zji (by rw[hL];exact hi),Gx Gk]
  rw[this];exact Ze4 hl hrow t Gk i k hi Gk
end
def SolvC(E X:Nat->Nat->Rat)(n:Nat):Prop:=
 (∀ i,i<n->X i n=upS E X i n n/E i i)/\(∀ i,SmN 300 300 (X i n))/\∀ i t,SmN 400 400 (upS E X i n t)
def Zm4(B0:Nat)(q:Rat)(ca al:Nat)(i:Nat)(v:Value)(w:World):Prop:=
 if i=ca then ∃ na A n c nb B m d,v=.agg #[.bool na,.slice A n c,.bool nb,.slice B m d]/\Fr w na A n c nb B m d q
 else if i=al then ∃ g,v=.pointer (some ⟨g,0,none⟩)/\B0<=g/\Blk w g 41 #[.bool false,.slice none 0 0,.bool false,.slice none 0 0]
 else True
theorem Ztq{B0:Nat}{q:Rat}{ca al i:Nat}{v:Value}{w w':World}(hb:Below w.heap.size w w')(h:Zm4 B0 q ca al i v w):Zm4 B0 q ca al i v w':=by
 unfold Zm4 at h ⊢
 split at h
 ·rename_i h1;rw[Gx h1]
  exact FZ
 rename_i h1;rw[Gw h1]
 split at h
 ·rename_i h4;rw[Gx h4]
  obtain⟨g,e,h5,h6⟩:=h;exact⟨g,e,h5,Ze hb h6⟩
 rename_i h4;rw[Gw h4];trivial
def FTail(t:TypeId)(w:World)(g n i:Nat)(x:Nat->Rat):Prop:=∃ es:List FE,Blk w g t (Z0 es)/\es.length=n/\∀ (j:Nat) (e:FE),i<=j->es[j]?=some e->e.in_ w/\e.q=x j
section
variable{t:TypeId}{w w':World}{g n i:Nat}{x:Nat->Rat}
theorem FTail.new(t:TypeId)(w:World)(n:Nat)(x:Nat->Rat):FTail t (w.alloc (.cells (Z0 (Qb n Zat)) t)) w.heap.size n n x:=
 ⟨_,Qq _ _ _,by simp,λj e h1 h2=>by rw[Qd (by simp;exact h1)]at h2;cases h2⟩
theorem FTail.below(h:FTail t w g n i x)(hb:Below w.heap.size w w'):FTail t w' g n i x:=by
 obtain⟨es,h1,h2,h3⟩:=h;exact⟨es,Ze hb h1,h2,λj e hj he=>⟨(h3 j e hj he).1.below hb,(h3 j e hj he).2⟩⟩
theorem FTail.at_(h:FTail t w g n i x){j:Nat}(hij:i<=j)(hj:j<n):∃ na A k c nb B m d,w.cell? ⟨g,j*4,none⟩=some (.bool na)/\w.cell? ⟨g,j*4+1,none⟩=some (.slice A k c)/\w.cell? ⟨g,j*4+2,none⟩=some (.bool nb)/\w.cell? ⟨g,j*4+3,none⟩=some (.slice B m d)/\Fr w na A k c nb B m d (x j):=by
 obtain⟨es,h1,h2,h3⟩:=h;have he:=Qf (l:=es) (i:=j) Gk;have hc:=Zd4 he;obtain⟨h4,h5⟩:=h3 j _ hij he;unfold FE.in_ at h4;rw[h5]at h4;exact⟨_,_,_,_,_,_,_,_,by rw[h1.cell];exact hc.1,by rw[h1.cell];exact hc.2.1,by rw[h1.cell];exact hc.2.2.1,by rw[h1.cell];exact hc.2.2.2,h4⟩
theorem FTail.raw(h:FTail t w g n i x):FRaw t w g n:=by obtain⟨es,h1,h2,-⟩:=h;exact⟨es,h1,by omega⟩
theorem FTail.set_(h:FTail t w g n (i+1) x)(hi:i<n){na:Bool}{A:Option Addr}{k c:Nat}{nb:Bool}{B:Option Addr}{m d:Nat}(hf:Fr w na A k c nb B m d (x i)):FTail t (Zgg w g i na A k c nb B m d) g n i x:=by
 obtain⟨es,h1,h2,h3⟩:=h;have hb:=(((h1.set_ (i*4) (.bool na)).set_ (i*4+1) (.slice A k c)).set_ (i*4+2) (.bool nb)).set_ (i*4+3) (.slice B m d);have hs:=Zho (es:=es) (i:=i) ⟨na,A,k,c,nb,B,m,d,x i⟩ Gk;dsimp only at hs;rw[hs]at hb;have f:=Zcd es;refine⟨_,hb,by rw[Qv];exact h2,λj e hj he=>?_⟩;rw[Qk]at he;by_cases hij:i=j
 ·subst hij
  rw[Gx rfl,Gx Gk]at he;cases he;exact⟨Zin hf h1 f,rfl⟩
 rw[Gw hij]at he;have:=h3 j e Gk he;exact⟨Zin this.1 h1 f,this.2⟩
theorem FTail.fl(h:FTail t w g n 0 x)(hm:n<=maxLen):FL w (some ⟨g,0,none⟩) n n ((Qo n).map x):=by
 obtain⟨es,h1,h2,h3⟩:=h;refine⟨es,h2,Qa _,hm,λe he=>?_,?_,λ_=>⟨g,0,rfl,λk e he=>?_⟩⟩
 ·obtain⟨j,hj,e2⟩:=Qm he
  exact(h3 j e (Qp _) (by rw[Qf hj,e2])).1
 ·apply QC
  intro j;rw[Qj,Qj];by_cases hj:j<n
  ·have he:=Qf (l:=es) (i:=j) Gk
   rw[he,Ql hj,Qs,Qs,(h3 j _ (Qp _) he).2]
  rw[Qd Gk,Qd (by simpa using hj)];rfl
 have hc:=Zd4 he;exact⟨by rw[Qr,h1.cell];exact hc.1,by rw[Qr,h1.cell];exact hc.2.1,by rw[Qr,h1.cell];exact hc.2.2.1,by rw[Qr,h1.cell];exact hc.2.2.2⟩
end
theorem RowS.isSlC{t:TypeId}{w:World}{base:Nat}{v:Value}{rs:List RS}(h:RowS t w base v rs):∃ A n c,v=.slice A n c:=by
 exact FC
def Zxs(A X:Nat->Nat->Rat)(n:Nat)(w:World)(e:Ending)(w':World):Prop:=
 Below w.heap.size w w'/\((posP A n/\∃ B c,e=.returned (.tuple #[.slice B n c,.bool true])/\FL w' B n c ((Qo n).map λi=>X i n)) \/ (¬ posP A n/\e=.returned (.tuple #[.slice none 0 0,.bool false])))
theorem IB{G:Prop}(h:G:=by
 clear fp fq fh bK;go_wp2_with fail;go_returns;exact⟨aH.out,.inr ⟨iA.out,rfl⟩⟩):G:=h
theorem Zqz(A0:Option Addr)(n c:Nat)(Q:List (List Rat))(Ax:Option Addr)(cx:Nat)(xs:List Rat)(w:World)(h:MFL w A0 n c Q)(hv:FL w Ax n cx xs)(hn0:0<n)(hn9:n<=100)(hm:∀ i,i<n->(Q[i]?.getD []).length=n)
    (hs:∀ t i k,t<=n->posP (Zj (Zcr Q xs n)) t->i<n->SmN 380 380 (Zu (Zj (Zcr Q xs n)) t i k)) (hl:∀ i k,k<=i->i<n->posP (Zj (Zcr Q xs n)) (k+1)->SmN 300 300 (lQ (Zj (Zcr Q xs n)) i k))
    (X:Nat->Nat->Rat) (hX:posP (Zj (Zcr Q xs n)) n->SolvC (λi j=>Zu (Zj (Zcr Q xs n)) i i j) X n) :
    Calls Tryz.prog 57 #[.slice A0 n c,.slice Ax n cx] w (Zxs (Zj (Zcr Q xs n)) X n w):=by
 obtain⟨iF,hi,l4,j7,k3⟩:=info_parts Ze1;obtain⟨iS,ki,H0,K0,L5⟩:=info_parts Ziq;have hmx:=Gt;have C9:(35:TypeId)≠41:=Gj;have N2:=h.2.1;have K7:=h.2.2.1;unfold maxLen at K7;have y5:=hv.cap;unfold maxLen at y5;obtain⟨R,hR⟩:=Gz (Zcr Q xs n);have m0:Hid (R.length=n):=Zd (by rw[<- hR];exact Zlj);have j6:Hid (∀ i,i<R.length->(R[i]?.getD []).length=n+1):=Zd (λi hi=>by rw[<- hR]at hi ⊢;exact Zpo hm (by rw[Zlj]at hi;exact hi));have z4:Hid (∀ i,i<n->R[i]?=some (Q[i]?.getD [] ++ [xs[i]?.getD 0])):=Zd (λi hi=>by rw[<- hR];exact Zyl hi);rw[hR]at hs hl hX ⊢;obtain⟨AR,l9⟩:=Gz (Zj R);rw[l9]at hs hl hX ⊢;replace l9:=Zd l9;have hH:=Zd h;have K5:=Zd hv;replace hs:=Zd hs;replace hl:=Zd hl;replace hX:=Zd hX;replace hm:=Zd hm;clear h hv hR;go_in;go_wp2_with fail
 go_loopg [6,7] n (λk ov iv wr=>∃ (i:Nat) (L:List RF),i+k=n/\iv=.int .i64 i/\MatO 35 41 wr w.heap.size ov L/\Hid (L.map RF.q=R.take i)/\Below w.heap.size w wr)
 case atStart=>exact⟨0,[],by omega,rfl,MatO.nil _ _ _ _,Zd Gh,Qc _ _⟩
 case round =>
  obtain⟨i,L,L4,rfl,hM,hQ,hB⟩:=hrel
  have f6:L.length=i:=by
   have h1:(L.map RF.q).length=(R.take i).length:=by rw[hQ.out]
   rw[Qg,List.length_take,m0.out]at h1;omega
  cases gk with
  | succ j =>
   obtain rfl:j=n-(i+1):=Gk;have u:i<n:=Gk;have t1:decide ((i:Int)<(n:Int))=true:=Gv Gk;have bi:(i:Int)<(n:Int):=Gk;obtain⟨g,o,A1,n1,c1,rfl,k0,hF⟩:=hH.out.at_ u;have H8:n=n1:=by rw[<- hF.len];exact(hm.out i u).symm
   subst H8;obtain⟨gy,oy,xn,xA,xk,xc,xm,xB,xj,xd,rfl,⟨x0,x1,x2,x3⟩,y9⟩:=K5.out.at_ u;have J7:Hid (∀ s ∈ L,s.g<wr.heap.size):=Zd (λs hs=>(hM.2.1 s hs).1.1.lt);have e6:Hid ((Q[i]?.getD []).length=n):=Zd (hm.out i u);obtain⟨O6,ovn,ovc,rfl⟩:=hM.1.isSlC;replace hM:=Zd hM;replace hF:=Zd hF;replace y9:=Zd y9;have y0:=Zc hB k0;have y1:=Zc hB x0;have y2:=Zc hB x1;have y3:=Zc hB x2;have y4:=Zc hB x3;go_wp2_with fail;obtain⟨X0,T⟩:=Gz wr.drew;have f5:Below wr.heap.size wr X0:=by rw[<- T];exact Zh (Qc _ _) 1
   have a2:Hid (∀ wx,Below w.heap.size w wx->wx.cell? ⟨g,o+i,none⟩=some (.slice A1 n c1)/\wx.cell? ⟨gy,oy+i*4,none⟩=some (.bool xn)/\wx.cell? ⟨gy,oy+i*4+1,none⟩=some (.slice xA xk xc)/\wx.cell? ⟨gy,oy+i*4+2,none⟩=some (.bool xm)/\wx.cell? ⟨gy,oy+i*4+3,none⟩=some (.slice xB xj xd)):=Zd (λwx f=>⟨Zc f k0,Zc f x0,Zc f x1,Zc f x2,Zc f x3⟩);have F1:Below w.heap.size w X0:=Gs hB f5;refine wp_heldS [] hmx a2 (by rw[T];exact F1) (λhxs=>?_);rw[T];clear y0 y1 y2 y3 y4;refine Zkb 9 [0,2,3,4,5,7,8,9,10] rfl Gi (a2.out _ F1) ?_
   iterate 9 (refine tkA ?_;try simp only[Qe,Zg9,Zgn,Zg3,Gr,Gq,Gp])
   refine tk0 ?_;refine Zdg (i:=1) (j:=11) rfl rfl Gi (λK hK=>?_) (λK hK=>?_)
   focus
    obtain⟨Y1,l8⟩:=Gz (X0.alloc (.cells #[] 41));obtain⟨e0,h5⟩:=Gz X0.heap.size;have E7:Below X0.heap.size X0 Y1:=by rw[<- l8];exact(Qc _ _).alloc (Qa _) _
    have D6:Blk Y1 e0 41 #[]:=by rw[<- l8,<- h5];exact Qq _ _ _
    have x4:wr.heap.size<=e0:=by rw[<- h5];exact f5.size
    have a3:=Gs f5 E7;have C2:Below w.heap.size w Y1:=Gs hB a3;have g8:OwnF 41 Y1 wr.heap.size (.slice (some ⟨e0,0,none⟩) 0 0) []:=⟨[],.inr ⟨e0,0,rfl,x4,Qp _,D6⟩,λe he=>(by cases he),rfl⟩;go_simp;(try rw[l8]);(try rw[h5]);refine hK.out _ _ (λ_=>a2.out _ C2) ?_;clear hK K l8 h5
    try simp only[Qe,Zg9,Zgn,Zg3]
    refine Zdg (i:=6) (j:=11) rfl rfl Gi (λK hK=>?_) (λK hK=>?_)
    focus
     obtain⟨E9,B3,r6,υ5,w7⟩:=(hF.out.below (Gs hB a3)).reads;rw[Gx Ge];refine Zbi _ (.tmp 24) (.tmp 28) 35 rfl wr.heap.size 41 iF Tryz.underlying35 hi l4 j7 k3 (.slice (some ⟨e0,0,none⟩) 0 0) [] rfl g8 _ _ _ _ E9 rfl B3 r6 υ5 Gg a3.size ?_;intro L7 Y4 q7 E5 M8 M1;rw[Qw,w7]at q7;have g9:=a3.grown E5 a3.size (λk hk=>g8.row_ge k hk);have z9:Below w.heap.size w Y4:=Gs hB g9;refine hK.out _ _ (λ_=>a2.out _ z9) ?_;clear hK K
     try simp only[Qe,Zg9,Zgn,Zg3]
     refine wpAnyL_o 11 λK hK=>?_;obtain⟨Y5,n0⟩:=Gz (Y4.alloc (.cells #[.bool xn,.slice xA xk xc,.bool xm,.slice xB xj xd] 41));obtain⟨r9,g7⟩:=Gz Y4.heap.size;have r1:Below Y4.heap.size Y4 Y5:=by rw[<- n0];exact(Qc _ _).alloc (Qa _) _
     have C0:Blk Y5 r9 41 #[.bool xn,.slice xA xk xc,.bool xm,.slice xB xj xd]:=by rw[<- n0,<- g7];exact Qq _ _ _
     have L0:wr.heap.size<=r9:=by rw[<- g7];exact g9.size
     have r3:=Gs g9 r1;have z7:Below w.heap.size w Y5:=Gs hB r3;have m3:=q7.kept r1;go_simp;(try rw[n0]);(try rw[g7]);refine hK.out _ _ (λ_=>a2.out _ z7) ?_;clear hK K n0 g7
     try simp only[Qe,Zg9,Zgn,Zg3]
     have rL:=r3;have oL:=m3;have bL:=C0;obtain⟨vL,rfl⟩:∃ x:Value,x=L7:=⟨_,rfl⟩;obtain⟨gL,rfl⟩:∃ x:Nat,x=r9:=⟨_,rfl⟩;obtain⟨WL,rfl⟩:=Gy Y5
    rotate_left 1
    focus
     obtain⟨Y8,m6⟩:=Gz (Y1.alloc (.cells #[.bool xn,.slice xA xk xc,.bool xm,.slice xB xj xd] 41));obtain⟨i3,d8⟩:=Gz Y1.heap.size;have q8:Below Y1.heap.size Y1 Y8:=by rw[<- m6];exact(Qc _ _).alloc (Qa _) _
     have k6:Blk Y8 i3 41 #[.bool xn,.slice xA xk xc,.bool xm,.slice xB xj xd]:=by rw[<- m6,<- d8];exact Qq _ _ _
     have J3:wr.heap.size<=i3:=by rw[<- d8];exact a3.size
     have d7:=Gs a3 q8;have E1:Below w.heap.size w Y8:=Gs hB d7;have x9:Hid (e0<i3):=Zd (by rw[<- d8];have h9:=g8.blt e0 (by simp[Value.ownBlock]);exact h9);have h6:=g8.kept q8;go_simp;(try rw[m6]);(try rw[d8]);refine hK.out _ _ (λ_=>a2.out _ E1) ?_;clear hK K m6 d8
     try simp only[Qe,Zg9,Zgn,Zg3]
     refine wpAnyL_o 6 λK hK=>?_;obtain⟨w6,y8,o7,n6,o9⟩:=(hF.out.below (Gs hB d7)).reads;rw[Gx Ge];refine Zbi _ (.tmp 24) (.tmp 28) 35 rfl wr.heap.size 41 iF Tryz.underlying35 hi l4 j7 k3 (.slice (some ⟨e0,0,none⟩) 0 0) [] rfl h6 _ _ _ _ w6 rfl y8 o7 n6 Gg d7.size ?_;intro C4 x6 i5 k8 J6 F7;rw[Qw,o9]at i5;have l2:=d7.grown k8 d7.size (λk hk=>h6.row_ge k hk);have t7:Below w.heap.size w x6:=Gs hB l2;have i0:Blk x6 i3 41 #[.bool xn,.slice xA xk xc,.bool xm,.slice xB xj xd]:=(k8.block i3 k6.lt (λe=>by simp[Value.ownBlock]at e;have:=x9.out;omega)).trans k6;refine hK.out _ _ (λ_=>a2.out _ t7) ?_;clear hK K
     try simp only[Qe,Zg9,Zgn,Zg3]
     have rL:=l2;have oL:=i5;have bL:=i0;obtain⟨vL,rfl⟩:∃ x:Value,x=C4:=⟨_,rfl⟩;obtain⟨gL,rfl⟩:∃ x:Nat,x=i3:=⟨_,rfl⟩;obtain⟨WL,rfl⟩:=Gy x6
   rotate_left 2
   focus
    obtain⟨f9,h3⟩:=Gz (X0.alloc (.cells #[.bool xn,.slice xA xk xc,.bool xm,.slice xB xj xd] 41));obtain⟨b6,b8⟩:=Gz X0.heap.size;have υ8:Below X0.heap.size X0 f9:=by rw[<- h3];exact(Qc _ _).alloc (Qa _) _
    have j3:Blk f9 b6 41 #[.bool xn,.slice xA xk xc,.bool xm,.slice xB xj xd]:=by rw[<- h3,<- b8];exact Qq _ _ _
    have F6:wr.heap.size<=b6:=by rw[<- b8];exact f5.size
    have b7:=Gs f5 υ8;have t0:Below w.heap.size w f9:=Gs hB b7;go_simp;(try rw[h3]);(try rw[b8]);refine hK.out _ _ (λ_=>a2.out _ t0) ?_;clear hK K h3 b8
    try simp only[Qe,Zg9,Zgn,Zg3]
    refine wpAnyL_o 1 λK hK=>?_;obtain⟨o8,h2⟩:=Gz (f9.alloc (.cells #[] 41));obtain⟨b5,a9⟩:=Gz f9.heap.size;have j9:Below f9.heap.size f9 o8:=by rw[<- h2];exact(Qc _ _).alloc (Qa _) _
    have w0:Blk o8 b5 41 #[]:=by rw[<- h2,<- a9];exact Qq _ _ _
    have p5:wr.heap.size<=b5:=by rw[<- a9];exact b7.size
    have b0:=Gs b7 j9;have w8:Below w.heap.size w o8:=Gs hB b0;have x9:Hid (b6<b5):=Zd (by rw[<- a9];exact j3.lt);have b4:=Ze j9 j3;have l3:OwnF 41 o8 wr.heap.size (.slice (some ⟨b5,0,none⟩) 0 0) []:=⟨[],.inr ⟨b5,0,rfl,p5,Qp _,w0⟩,λe he=>(by cases he),rfl⟩;go_simp;(try rw[h2]);(try rw[a9]);refine hK.out _ _ (λ_=>a2.out _ w8) ?_;clear hK K h2 a9
    try simp only[Qe,Zg9,Zgn,Zg3]
    refine wpAnyL_o 6 λK hK=>?_;obtain⟨s9,t8,p8,p9,p4⟩:=(hF.out.below (Gs hB b0)).reads;rw[Gx Ge];refine Zbi _ (.tmp 24) (.tmp 28) 35 rfl wr.heap.size 41 iF Tryz.underlying35 hi l4 j7 k3 (.slice (some ⟨b5,0,none⟩) 0 0) [] rfl l3 _ _ _ _ s9 rfl t8 p8 p9 Gg b0.size ?_;intro B8 y6 k9 l6 H9 F5;rw[Qw,p4]at k9;have k7:=b0.grown l6 b0.size (λk hk=>l3.row_ge k hk);have r7:Below w.heap.size w y6:=Gs hB k7;have b9:Blk y6 b6 41 #[.bool xn,.slice xA xk xc,.bool xm,.slice xB xj xd]:=(l6.block b6 b4.lt (λe=>by simp[Value.ownBlock]at e;have:=x9.out;omega)).trans b4;refine hK.out _ _ (λ_=>a2.out _ r7) ?_;clear hK K
    try simp only[Qe,Zg9,Zgn,Zg3]
    have rL:=k7;have oL:=k9;have bL:=b9;obtain⟨vL,rfl⟩:∃ x:Value,x=B8:=⟨_,rfl⟩;obtain⟨gL,rfl⟩:∃ x:Nat,x=b6:=⟨_,rfl⟩;obtain⟨WL,rfl⟩:=Gy y6
   all_goals
    refine wpAnyL_o 12 λK hK=>?_;rw[Gx Ge];obtain⟨zA,zc,A9,H3⟩:=oL.fl;rw[e6.out]at A9 H3;subst A9;refine Zbi _ (.tmp 29) (.tmp 34) 35 rfl wr.heap.size 41 iF Tryz.underlying35 hi l4 j7 k3 (.slice zA n zc) _ rfl oL _ (some ⟨gL,0,none⟩) 1 1 [⟨xn,xA,xk,xc,xm,xB,xj,xd,xs[i]?.getD 0⟩] rfl (Zcn _ bL) rfl (by intro e he;rw[QA]at he;subst he;exact y9.out.below (Gs hB rL)) (by rw[e6.out];omega) rL.size ?_;intro vQ i4 l1 s5 I0 F4;simp only[Qt,Qu]at l1;have g6:=rL.grown s5 rL.size (λk hk=>oL.row_ge k hk);have υ4:Below w.heap.size w i4:=Gs hB g6;rcases l1.fown with ⟨-,t9⟩|⟨g2,c2,rfl,C3,r0,C5,H6⟩;simp at t9;have y7:(Q[i]?.getD [] ++ [xs[i]?.getD 0]).length=n+1:=by rw[Qz,e6.out];rfl
    rw[y7]at r0 ⊢;refine hK.out _ _ (λ_=>a2.out _ υ4) ?_;clear hK K
    try simp only[Qe,Zg9,Zgn,Zg3]
    obtain⟨Z1,n8⟩:∃ Z,i4.alloc (.cells #[.slice (some ⟨g2,0,none⟩) (n+1) c2] 35)=Z:=⟨_,rfl⟩;obtain⟨gz,υ7⟩:=Gz i4.heap.size;have z6:Below i4.heap.size i4 Z1:=by rw[<- n8];exact(Qc _ _).alloc (Qa _) _
    have G1:Blk Z1 gz 35 #[.slice (some ⟨g2,0,none⟩) (n+1) c2]:=by rw[<- n8,<- υ7];exact Qq _ _ _
    have E4:=Gs g6 z6;have o6:Below w.heap.size w Z1:=Gs hB E4;refine wpAnyL_o 13 λK hK=>?_;go_simp;(try rw[n8]);(try rw[υ7]);refine hK.out _ _ (λ_=>a2.out _ o6) ?_;clear hK K n8 υ7
    try simp only[Qe,Zg9,Zgn,Zg3]
    have v7:=hM.out.kept E4;have J2:=H6.below z6;have H1:(L.map RF.rs).length+1<=1000:=by rw[Qg];omega
    refine wpAnyL_o 14 λK hK=>?_;rw[Gx Ge];refine Zau _ (.tmp 23) (.tmp 36) 25 rfl w.heap.size 35 iS Tryz.underlying25 ki H0 K0 L5 _ (L.map RF.rs) rfl v7.1 _ (some ⟨gz,0,none⟩) 1 1 [⟨some ⟨g2,0,none⟩,n+1,c2⟩] rfl (Zyq G1) rfl H1 o6.size ?_;intro v5 w5 M2 F3 K9;have s6:=o6.grown F3 o6.size (λk hk=>v7.1.row_ge k hk);have C7:∀ s ∈ L,s.g≠g2:=λs hs=>by have:=J7.out s hs;omega
    have n7:=Zd (v7.snoc C9 (r:=⟨g2,c2,Q[i]?.getD [] ++ [xs[i]?.getD 0]⟩) ⟨J2,by rw[y7];exact r0,C5⟩ (Qn hB.size C3) C7 (by simp only[RF.rs,y7];exact M2) F3 K9);have L3:Hid (L.map RF.q ++ [Q[i]?.getD [] ++ [xs[i]?.getD 0]]=R.take (i+1)):=Zd (by rw[hQ.out,List.take_add_one,z4.out i u];rfl);refine hK.out _ _ (λ_=>a2.out _ s6) ?_;clear hK K
    try simp only[Qe,Zg9,Zgn,Zg3]
    (refine Zl (i:=15) (v:=?_) rfl Gi Gi Gi Gi (Or.inl ⟨by kernel_rfl,?_⟩) (λ_=>(a2.out _ s6)) ?_;rotate_left;(· intro W2 _;go_simp;try with_reducible rfl);try simp only[Qe,Zg9,Zgn,Zg3,Gr,Gq,Gp])
    refine wpAnyL_fin ?_;go_wp2_with fail
    go_roundg (n-(i+1))
    case measure=>omega
    case rel=>exact⟨i+1,_,by omega,by go_num,n7.out,Zd (by rw[List.map_append];exact L3.out),s6⟩
  | zero =>
   obtain rfl:n=i:=Gk;have t1:decide ((n:Int)<(n:Int))=false:=Gh;have A3:L.map RF.q=R:=by rw[hQ.out];exact List.take_of_length_le (by rw[m0.out];exact Qa _)
   obtain⟨go,cap,rfl,H7,M0,O8,g4,d6⟩:=hM.mat C9 (λe=>by rw[e]at f6;simp at f6;omega);rw[f6]at H7;simp only[f6];unfold maxLen at M0
   have J1:Hid (∀ k,k ∈ L.map RF.g->w.heap.size<=k):=Zd (λk hk=>by
    obtain⟨r,hr,rfl⟩:=List.mem_map.1 hk;exact d6 r hr)
   have M9:Hid (go ∉ L.map RF.g):=Zd (List.nodup_cons.1 g4.2.2).1;obtain⟨w1,rfl⟩:=Gy wr;have I6:Hid (∀ k,k ∈ L.map RF.g->∃ t cs,Blk w1 k t cs/\NoLimb cs):=Zd (λk hk=>g4.boxes k (.inr hk));have N5:Hid (go<w1.heap.size):=Zd (by obtain⟨t,cs,hb,-⟩:=g4.boxes go (.inl rfl);exact hb.lt);have A6:=Zd A3;replace g4:=Zd g4;replace f6:=Zd f6;replace hB:=Zd hB;clear hM hQ A3 d6;go_wp2_with fail
   go_loopg [9] n (λk iv wr=>∃ (p:Nat) (L1:List RF),p+k=n/\iv=.int .i64 p/\MatB 35 41 wr go L1/\Hid (L1.length=n)/\Hid (L1.map RF.g=L.map RF.g)/\Hid (L1.map RF.c=L.map RF.c)/\Hid (L1.map RF.q=Zfs R p)/\Hid (posP AR p)/\Kept (λg=>g ∈ L.map RF.g) w1 wr)
   case atStart=>exact⟨0,L,by omega,rfl,g4.out,f6,Zd rfl,Zd rfl,Zd A6.out,Zd (λt ht=>by omega),Qx _ _⟩
   case round =>
    clear g4;obtain⟨wp_,rfl⟩:=Gy wr;obtain⟨p,L1,P0,rfl,hM,d0,K2,D4,w9,a0,hK⟩:=hrel;have aH:Hid (Below w.heap.size w wp_):=Zd (hB.out.trans (hK.to_below J1.out hB.out.size))
    have hE:Hid (∀ i k,i<n->min p i<=k->(Zdi L1 i)[k]?.getD 0=Zu AR p i k):=Zd (λi k hi hk=>by
     rw[<- Zks,w9.out,<- l9.out];exact Ze4 m0.out j6.out p Gk i k hi hk)
    have a5:Hid (∀ i,i<n->(Zdi L1 i).length=n+1):=Zd (λi hi=>by
     rw[Zn0,w9.out];exact Zk5 j6.out p i (by rw[m0.out];exact hi))
    cases gk with
    | zero =>
     obtain rfl:n=p:=Gk;have t2:decide ((n:Int)<(n:Int))=false:=Gh;have I3:Hid (∀ i k,i<n->i<=k->(Zdi L1 i)[k]?.getD 0=Zu AR i i k):=Zd (λi k hi hk=>by rw[hE.out i k hi Gk,Zm7 Gk]);have T:=hX.out a0.out;obtain⟨E,i2⟩:∃ E:Nat->Nat->Rat,(λi j=>Zu AR i i j)=E:=⟨_,rfl⟩;rw[i2]at T;have υ9:Hid (∀ i k,i<n->i<=k->(Zdi L1 i)[k]?.getD 0=E i k):=Zd (λi k hi hk=>by rw[I3.out i k hi hk,<- i2]);have t6:Hid (∀ i k,i<n->SmN 380 380 (E i k)):=Zd (λi k hi=>by rw[<- i2];exact hs.out i i k Gk (a0.out.mono Gk) hi);have G5:Hid (∀ i,i<n->E i i≠0):=Zd (λi hi=>by rw[<- i2];exact a0.out.ne hi);obtain⟨e1,e2,e3⟩:=T;replace e1:=Zd e1;replace e2:=Zd e2;replace e3:=Zd e3;replace i2:=Zd i2;have G8:=Zvb (P:=Tryz.prog) 35 41 Tryz.underlying35 hi l4 j7 k3 (n:Int) n rfl Gk wp_;obtain⟨gO,j0⟩:=Gz wp_.heap.size;obtain⟨X2,v6,υ6,-,-,-,sX⟩:=Zq 41 (Z0 (Qb n Zat)) (Qc wp_.heap.size wp_) (Qa _);have hO:FTail 41 X2 gO n n (λi=>X i n):=by rw[<- v6,<- j0];exact FTail.new _ _ _ _
     have h8:=Zd (hM.below υ6);have D9:Hid (Below w.heap.size w X2):=Gn aH υ6;have C1:Hid (w.heap.size<=gO):=Zd (by rw[<- j0];exact aH.out.size)
     have D7:Hid (go≠gO):=Zd (by
      obtain⟨t,cs,hb,-⟩:=hM.boxes go (.inl rfl);have:=hb.lt;omega)
     have z8:Hid (∀ r ∈ L1,r.g≠gO):=Zd (λr hr=>by
      obtain⟨t,cs,hb,-⟩:=hM.boxes r.g (.inr (List.mem_map.2 ⟨r,hr,rfl⟩));have:=hb.lt;omega)
     have P5:Hid (∃ t cs,Blk X2 gO t cs/\NoLimb cs):=Zd hO.raw.box;have G0:IntKind.i64.wrap ((n:Int)-1)=(n:Int)-1:=by rw[IntKind.wrap_i64];omega
     replace hO:=Zd hO;replace hK:=Zd hK;clear hM υ6 sX;go_wp2_with fail;(try rw[v6]);(try rw[j0]);clear G8 v6;replace j0:=Zd j0
     go_loopg [14] n (λk iv wr=>iv=.int .i64 ((k:Int)-1)/\k<=n/\MatB 35 41 wr go L1/\FTail 41 wr gO n k (λi=>X i n)/\Kept (λg=>g=gO) X2 wr)
     case atStart=>exact⟨by go_num,Qa _,h8.out,hO.out,Qx _ _⟩
     case round =>
      clear h8 hO G0;obtain⟨f8,rfl⟩:=Gy wr;obtain⟨rfl,O1,hM,hO,a7⟩:=hrel;cases gk with
      | zero =>
       have t3:decide ((0:Int)<=((0:Nat):Int)-1)=false:=Gj;have D0:decide ((0:Int) <= -1)=false:=Gj;have K3:=Zd (hO.fl (by unfold maxLen;omega));have G2:Hid (Below w.heap.size w f8):=Zd (D9.out.trans (a7.to_below (λk e=>by have:=C1.out;omega) D9.out.size));have U:=a0;replace hM:=Zd hM;replace a7:=Zd a7;replace hO:=Zd hO;go_wp2_with fail;go_returns;exact⟨G2.out,.inl ⟨U.out,_,_,rfl,K3.out⟩⟩
      | succ i =>
       have e9:((i+1:Nat):Int)-1=(i:Int):=Gk;rw[e9];have u:i<n:=Gk;have t3:decide ((0:Int)<=(i:Int))=true:=Gv Gk;have bi:(i:Int)<(n:Int):=Gk;have bnn:(n:Int)<((n+1:Nat):Int):=Gk;have M6:(n:Int)<(n:Int)+1:=Gk;obtain⟨ri,O⟩:=Zb5 (L:=L1) (i:=i) (by rw[d0.out];exact u);have b1:ri.q=Zdi L1 i:=(Zgk O).symm;have c7:ri.q.length=n+1:=by rw[b1];exact a5.out i u
       obtain⟨ci,zi⟩:=hM.cell O;obtain⟨fi,x7,r8⟩:=hM.row O;rw[c7]at ci x7;unfold maxLen at r8;obtain⟨xn,xA,xk,xc,xm,xB,xj,xd,p0,p1,p2,p3,bK⟩:=fi.at_ (i:=n) (by rw[c7];omega);rw[b1,υ9.out i n u Gk]at bK;obtain⟨V1,H2,i8,a1,s1⟩:=Zao f8 41 #[.bool false,.slice none 0 0,.bool false,.slice none 0 0];obtain⟨gs,d6⟩:=Gz f8.heap.size;rw[d6]at a1 s1;obtain⟨υ0,υ1,υ2,υ3,v0,v1,v2,v3⟩:=a1.four;obtain⟨W4,D5,a4,D2,s4⟩:=Za2 xn xA xk xc xm xB xj xd a1;have e7:Below f8.heap.size f8 W4:=i8.trans (D2.to_below (λk e=>by omega) i8.size);have I5:Hid (W4.heap.size=gs+1):=Zd (by rw[s4,s1]);have z5:=Zd (bK.below e7);have P2:=Zd (hM.below e7);have O2:=Zd (hO.below e7);have M5:Hid (Kept (λg=>g=gO) X2 W4):=Zd (a7.below e7);have I8:Hid (upS E X i n (i+1)=E i n):=Zd (Ztf _ _ _ _ _ (Qa _));have K6:IntKind.i64.wrap ((i:Int)+1)=((i+1:Nat):Int):=by rw[IntKind.wrap_i64];omega
       have N1:IntKind.i64.wrap ((i:Int)-1)=(i:Int)-1:=by rw[IntKind.wrap_i64];omega
       have M7:Hid (gO<gs):=Zd (by have:=hO.raw.lt;omega);replace e7:=Zd e7;replace a4:=Zd a4;replace hM:=Zd hM;replace hO:=Zd hO;replace a7:=Zd a7;clear bK i8 D2 s1 s4 fi b1;go_wp2_with fail;(try rw[d6]);(try rw[D5]);clear υ0 υ1 υ2 υ3 v0 v1 v2 v3 a1 H2 D5 p0 p1 p2 p3 ci zi;replace d6:=Zd d6
       go_loopg [16] (n-(i+1)) (λk kv wr=>∃ (t:Nat) (sn:Bool) (sA:Option Addr) (sk sc:Nat) (sm:Bool) (sB:Option Addr) (sj sd:Nat),t+k=n/\kv=.int .i64 t/\i+1<=t/\Blk wr gs 41 #[.bool sn,.slice sA sk sc,.bool sm,.slice sB sj sd]/\Hid (Fr wr sn sA sk sc sm sB sj sd (upS E X i n t))/\Kept (λg=>g=gs) W4 wr)
       case atStart=>exact⟨i+1,_,_,_,_,_,_,_,_,by omega,by go_num,Qa _,a4.out,Zd (by rw[I8.out];exact z5.out),Qx _ _⟩
       case round =>
        clear a4 z5 K6;obtain⟨wj,rfl⟩:=Gy wr;obtain⟨t,sn,sA,sk,sc,sm,sB,sj,sd,N9,rfl,K1,C8,B6,E6⟩:=hrel;have N0:=I5.out;have N3:=d6.out;have p6:Hid (Below f8.heap.size f8 wj):=Zd (e7.out.trans (E6.to_below (λk e=>by omega) Gk));have i1:=hM.out.below p6.out;have b3:=hO.out.below p6.out;obtain⟨ci,zi⟩:=i1.cell O;obtain⟨fi,-,-⟩:=i1.row O;rw[c7]at ci;have b1:ri.q=Zdi L1 i:=(Zgk O).symm;obtain⟨s0,s1,s2,s3,y0,y1,y2,y3⟩:=C8.four;cases gk with
        | succ k' =>
         obtain rfl:k'=n-(t+1):=Gk;have F9:t<n:=Gk;have t4:decide ((t:Int)<(n:Int))=true:=Gv Gk;have bt:(t:Int)<(n:Int):=Gk;have O0:(t:Int)<((n+1:Nat):Int):=Gk;have P3:(t:Int)<(n:Int)+1:=Gk;obtain⟨an,aA,ak,ac,am,aB,aj,ad,p0,p1,p2,p3,i9⟩:=fi.at_ (i:=t) (by rw[c7];omega);rw[b1,υ9.out i t u Gk]at i9;obtain⟨on_,oA,ok,oc,om,oB,oj,od,o0,o1,o2,o3,L9⟩:=b3.at_ (j:=t) K1 F9;have sa:=(t6.out i t u).sm (i:=380) Gj Gj;have sx:=(e2.out t).sm (i:=300) Gj Gj;have sp:Sm (E i t*X t n):=((t6.out i t u).mulN (e2.out t)).sm Gj Gj;have su:=(e3.out i t).sm (i:=400) Gj Gj;clear fi i1 b3;go_wp2_with fail;obtain⟨X0,T⟩:=Gz wj.drew;have I:Below wj.heap.size wj X0:=by rw[<- T];exact Zh (Qc _ _) 1
         have y:Hid (∀ wx,Below wj.heap.size wj wx->wx.cell? ⟨gs,0,none⟩=some (.bool sn)/\wx.cell? ⟨gs,1,none⟩=some (.slice sA sk sc)/\wx.cell? ⟨gs,2,none⟩=some (.bool sm)/\wx.cell? ⟨gs,3,none⟩=some (.slice sB sj sd)/\wx.cell? ⟨go,i,none⟩=some (.slice (some ⟨ri.g,0,none⟩) (n+1) ri.c)/\wx.cell? ⟨ri.g,t*4,none⟩=some (.bool an)/\wx.cell? ⟨ri.g,t*4+1,none⟩=some (.slice aA ak ac)/\wx.cell? ⟨ri.g,t*4+2,none⟩=some (.bool am)/\wx.cell? ⟨ri.g,t*4+3,none⟩=some (.slice aB aj ad)/\wx.cell? ⟨gO,t*4,none⟩=some (.bool on_)/\wx.cell? ⟨gO,t*4+1,none⟩=some (.slice oA ok oc)/\wx.cell? ⟨gO,t*4+2,none⟩=some (.bool om)/\wx.cell? ⟨gO,t*4+3,none⟩=some (.slice oB oj od)):=Zd (λwx f=>⟨Zc f s0,Zc f s1,Zc f s2,Zc f s3,Zc f ci,Zc f p0,Zc f p1,Zc f p2,Zc f p3,Zc f o0,Zc f o1,Zc f o2,Zc f o3⟩);refine wp_heldS [14] hmx y (by rw[T];exact I) (λhxs=>?_);rw[T];refine Zkb 12 [0,1,2,3,4,5,6,7,8,9,10,11] rfl Gi (y.out _ I) ?_
         iterate 12 (refine tkA ?_;try simp only[Qe,Zg9,Zgn,Zg3,Gr,Gq,Gp])
         refine tk0 ?_;refine wpAnyL_o 12 λK hK=>?_;go_simp;refine(Zlw an aA ak ac am aB aj ad on_ oA ok oc om oB oj od _ _ X0 (i9.below I) (L9.below I) sa sx).mono ?_;rintro e e5 ⟨d9,yn,yA,yk,yc,ym,yB,yj,yd,rfl,hy⟩;have C:=Gs I d9;refine hK.out _ _ (λ_=>y.out _ C) ?_;clear hK K
         try simp only[Qe,Zg9,Zgn,Zg3]
         refine wpAnyL_o 13 λK hK=>?_;go_simp;refine(Zl1 sn sA sk sc sm sB sj sd yn yA yk yc ym yB yj yd _ _ e5 (B6.out.below C) hy su sp).mono ?_;rintro e F2 ⟨l5,zn,zA,zk,zc,zm,zB,zj,zd,rfl,hz⟩;have J:=Gs C l5;refine hK.out _ _ (λ_=>y.out _ J) ?_;clear hK K
         try simp only[Qe,Zg9,Zgn,Zg3]
         have m7:=Ze J C8;obtain⟨f0,f1,f2,f3,G9,I7,G7,K4⟩:=m7.four;obtain⟨W7,E8,p7,w4,s7⟩:=Za2 zn zA zk zc zm zB zj zd m7;have I9:=Zd (hz.keptN w4 m7 (Zbf _ _ _ _ _ _ _ _));have J9:Hid (Kept (λg=>g=gs) W4 W7):=Zd ((E6.below J).trans w4);replace p7:=Zd p7;clear w4 hz hy;refine Zy (i:=14) rfl Gi Gi (λK hK=>?_);go_simp;(try rw[E8]);refine hK.out _ _ ?_;clear hK K
         try simp only[Qe,Zg9,Zgn,Zg3]
         refine wpAnyL_fin ?_;clear E8 f0 f1 f2 f3 G9 I7 G7 K4 m7 y hxs I J T s0 s1 s2 s3 p0 p1 p2 p3 o0 o1 o2 o3;have J4:Hid (Fr W7 zn zA zk zc zm zB zj zd (upS E X i n (t+1))):=Zd (by rw[Zrj _ _ Gk];exact I9.out);go_wp2_with fail
         go_roundg (n-(t+1))
         case measure=>omega
         case rel=>exact⟨t+1,_,_,_,_,_,_,_,_,by omega,by go_num,by omega,p7.out,J4,J9.out⟩
        | zero =>
         obtain rfl:n=t:=Gk;have t4:decide ((n:Int)<(n:Int))=false:=Gh;have P6:(i:Int)<((n+1:Nat):Int):=Gk;have N7:(i:Int)<(n:Int)+1:=Gk;obtain⟨an,aA,ak,ac,am,aB,aj,ad,p0,p1,p2,p3,i9⟩:=fi.at_ (i:=i) (by rw[c7];omega);rw[b1,υ9.out i i u Gk]at i9;obtain⟨on_,oA,ok,oc,om,oB,oj,od,o0,o1,o2,o3⟩:=b3.raw.cells u;have E0:=b3.raw.frozen (i*4);have D3:=b3.raw.frozen (i*4+1);have A8:=b3.raw.frozen (i*4+2);have E3:=b3.raw.frozen (i*4+3);have sa:=(t6.out i i u).sm (i:=380) Gj Gj;have su:=(e3.out i n).sm (i:=400) Gj Gj;replace i1:=Zd i1;replace b3:=Zd b3;clear fi;go_wp2_with fail;obtain⟨X0,T⟩:=Gz wj.drew;have I:Below wj.heap.size wj X0:=by rw[<- T];exact Zh (Qc _ _) 1
         have y:Hid (∀ wx,Below wj.heap.size wj wx->wx.cell? ⟨gs,0,none⟩=some (.bool sn)/\wx.cell? ⟨gs,1,none⟩=some (.slice sA sk sc)/\wx.cell? ⟨gs,2,none⟩=some (.bool sm)/\wx.cell? ⟨gs,3,none⟩=some (.slice sB sj sd)/\wx.cell? ⟨go,i,none⟩=some (.slice (some ⟨ri.g,0,none⟩) (n+1) ri.c)/\wx.cell? ⟨ri.g,i*4,none⟩=some (.bool an)/\wx.cell? ⟨ri.g,i*4+1,none⟩=some (.slice aA ak ac)/\wx.cell? ⟨ri.g,i*4+2,none⟩=some (.bool am)/\wx.cell? ⟨ri.g,i*4+3,none⟩=some (.slice aB aj ad)):=Zd (λwx f=>⟨Zc f s0,Zc f s1,Zc f s2,Zc f s3,Zc f ci,Zc f p0,Zc f p1,Zc f p2,Zc f p3⟩);refine wp_heldS [12] hmx y (by rw[T];exact I) (λhxs=>?_);rw[T];refine Zkb 10 [0,1,2,3,4,5,6,7,8,9] rfl Gi (y.out _ I) ?_
         iterate 10 (refine tkA ?_;try simp only[Qe,Zg9,Zgn,Zg3,Gr,Gq,Gp])
         refine tk0 ?_;refine wpAnyL_o 10 λK hK=>?_;go_simp;refine(Zmn sn sA sk sc sm sB sj sd an aA ak ac am aB aj ad _ _ X0 (B6.out.below I) (i9.below I) su sa (G5.out i u)).mono ?_;rintro e e5 ⟨d9,zn,zA,zk,zc,zm,zB,zj,zd,rfl,hz⟩;have C:=Gs I d9;refine hK.out _ _ (λ_=>y.out _ C) ?_;clear hK K
         try simp only[Qe,Zg9,Zgn,Zg3]
         refine Zgo 1 [11] rfl Gi (y.out _ C) ?_
         (refine tkA ?_;try simp only[Qe,Zg9,Zgn,Zg3,Gr,Gq,Gp])
         refine tk0 ?_;have x8:=b3.out.below C;have B7:=i1.out.below C;have I4:Hid (upS E X i n n/E i i=X i n):=Zd (e1.out i u).symm;rw[I4.out]at hz;obtain⟨Z9,d3⟩:=Gz (Zgg e5 gO i zn zA zk zc zm zB zj zd);have a8:=d3;unfold Zgg at a8;have s8:Kept (λg=>g=gO) e5 Z9:=by rw[<- d3];exact Zpt (Qx _ _) (.inl rfl)
         have G3:Hid (FTail 41 Z9 gO n i (λi=>X i n)):=Zd (by rw[<- d3];exact x8.set_ u hz);have J8:∀ k,k=gO->∃ t cs,Blk e5 k t cs/\NoLimb cs:=λk hk=>by rw[hk];exact x8.raw.box
         have w3:Hid (MatB 35 41 Z9 go L1):=Zd (B7.keptG s8 D7.out (λr hr=>z8.out r hr) J8);have v8:Hid (Kept (λg=>g=gO) X2 Z9):=Zd ((a7.out.below (Gs p6.out C)).trans s8);have f0:=Zo C o0 E0;have f1:=Zo C o1 D3;have f2:=Zo C o2 A8;have f3:=Zo C o3 E3;have g0:=Zc C o0;have g1:=Zc C o1;have g2:=Zc C o2;have g3:=Zc C o3;clear x8 B7 d3 s8 hz;refine Zy (i:=12) rfl Gi Gi (λK hK=>?_);go_simp;(try rw[a8]);refine hK.out _ _ ?_;clear hK K
         try simp only[Qe,Zg9,Zgn,Zg3]
         refine wpAnyL_fin ?_;clear a8 f0 f1 f2 f3 g0 g1 g2 g3 C I y hxs T s0 s1 s2 s3 p0 p1 p2 p3 o0 o1 o2 o3 E0 D3 A8 E3;go_wp2_with fail
         go_roundg i
         case measure=>omega
         case rel=>exact⟨by go_num,by omega,w3.out,G3.out,v8.out⟩
    | succ j =>
     obtain rfl:j=n-(p+1):=Gk;have U:p<n:=Gk;have t2:decide ((p:Int)<(n:Int))=true:=Gv Gk;have bp:(p:Int)<(n:Int):=Gk;have P7:(p:Int)<(n:Int)+1:=Gk;have bpn:(p:Int)<((n+1:Nat):Int):=Gk;obtain⟨rp,w2⟩:=Zb5 (L:=L1) (i:=p) (by rw[d0.out];exact U);have fq:rp.q=Zdi L1 p:=(Zgk w2).symm;have fh:rp.q.length=n+1:=by rw[fq];exact a5.out p U
     obtain⟨cp,zp⟩:=hM.cell w2;obtain⟨fp,J5,I2⟩:=hM.row w2;rw[fh]at cp J5;unfold maxLen at I2;obtain⟨n1,A1,k1,c1,m1,B1,j1,d1,p0,p1,p2,p3,bK⟩:=fp.at_ (i:=p) (by rw[fh];omega);rw[fq,hE.out p p U Gk]at bK;have l7:Hid (Zu AR p p p=dQ AR p):=Zd rfl;have V:=bK.pos_iff;have O9:IntKind.i64.wrap ((p:Int)+1)=((p+1:Nat):Int):=by rw[IntKind.wrap_i64];omega
     cases n1
     case true =>
      have iA:Hid (¬ posP AR n):=Zd (λh=>by have:=V.2 (by rw[l7.out];exact h p U);simp at this);replace hM:=Zd hM;replace hK:=Zd hK;replace V:=Zd V;exact IB
     by_cases e4:k1=0
     case pos =>
      have iA:Hid (¬ posP AR n):=Zd (λh=>(V.2 (by rw[l7.out];exact h p U)).2 e4);have t3:((k1:Int) == 0)=true:=by simp[e4]
      have D0:decide (k1=0)=true:=by simpa using e4
      replace hM:=Zd hM;replace hK:=Zd hK;replace V:=Zd V;have q9:=bK.1.2.1;subst e4;exact IB
     have f7:Hid (posP AR (p+1)):=Zd (λt ht=>by
      rcases Qh t p with h1|h1;exact a0.out t h1;rw[show t=p by omega];exact(by rw[<- l7.out];exact V.1 ⟨rfl,e4⟩))
     have t3:((k1:Int) == 0)=false:=by simp;omega
     have D0:decide (k1=0)=false:=by simpa using e4
     have q9:=bK.1.2.1;replace hM:=Zd hM;replace hK:=Zd hK;replace V:=Zd V;replace e4:=Zd e4;clear fp fq fh bK;go_wp2_with fail
     go_loopg [10] (n-(p+1)) (λk iv wr=>∃ (i:Nat) (L2:List RF),i+k=n/\iv=.int .i64 i/\p+1<=i/\MatB 35 41 wr go L2/\Hid (L2.length=n)/\Hid (L2.map RF.g=L.map RF.g)/\Hid (L2.map RF.c=L.map RF.c)/\Hid (ClrTo L1 L2 p p i)/\Kept (λg=>g ∈ L.map RF.g) w1 wr)
     case atStart=>exact⟨p+1,L1,by omega,by go_num,Qa _,hM.out,d0,K2,D4,Zd (λj hj=>by by_cases h1:j<=p \/ p+1<=j;rw[Gx h1];exact absurd h1 Gk),hK.out⟩
     case round =>
      clear hM hK cp zp p0 p1 p2 p3 q9;obtain⟨wi,rfl⟩:=Gy wr;obtain⟨i,L2,L4,rfl,O3,hM,b2,j8,r5,q4,hK⟩:=hrel;cases gk with
      | zero =>
       obtain rfl:n=i:=Gk;have t4:decide ((n:Int)<(n:Int))=false:=Gh
       have hfin:Hid (L2.map RF.q=Zfs R (p+1)):=Zd (by
        rw[ClrTo.done (by rw[d0.out];exact q4.out) (by rw[b2.out,d0.out]),w9.out];rfl)
       replace hM:=Zd hM;replace hK:=Zd hK;go_wp2_with fail
       go_roundg (n-(p+1))
       case measure=>omega
       case rel=>exact⟨p+1,L2,by omega,by go_num,hM.out,b2,j8,r5,hfin,f7,hK.out⟩
      | succ j =>
       obtain rfl:j=n-(i+1):=Gk;have u:i<n:=Gk;have t4:decide ((i:Int)<(n:Int))=true:=Gv Gk;have bi:(i:Int)<(n:Int):=Gk;obtain⟨ri,O⟩:=Zb5 (L:=L2) (i:=i) (by rw[b2.out];exact u);obtain⟨r2,g5⟩:=Zb5 (L:=L2) (i:=p) (by rw[b2.out];exact U)
       have b1:ri.q=Zdi L1 i:=by
        have:=q4.out i (by rw[d0.out];exact u);rw[Zgk O,Gx (Or.inr (Qa i))]at this;exact this
       have x5:r2.q=Zdi L1 p:=by
        have:=q4.out p (by rw[d0.out];exact U);rw[Zgk g5,Gx (Or.inl (Qa p))]at this;exact this
       have c7:ri.q.length=n+1:=by rw[b1];exact a5.out i u
       have o4:r2.q.length=n+1:=by rw[x5];exact a5.out p U
       obtain⟨ci,zi⟩:=hM.cell O;obtain⟨cr,zr⟩:=hM.cell g5;obtain⟨fi,x7,r8⟩:=hM.row O;obtain⟨fr,M4,J0⟩:=hM.row g5;rw[c7]at ci x7;rw[o4]at cr M4;unfold maxLen at r8 J0;have N4:=hM.ne2 O g5 Gk;obtain⟨n1,A1,k1,c1,m1,B1,j1,d1,p0,p1,p2,p3,bK⟩:=fi.at_ (i:=p) (by rw[c7];omega);obtain⟨n2,A2,k2,c2,m2,B2,j2,d2,q0,q1,q2,q3,v9⟩:=fr.at_ (i:=p) (by rw[o4];omega);rw[b1,hE.out i p u Gk]at bK;rw[x5,hE.out p p U Gk]at v9;obtain⟨by_,i7⟩:∃ q:Rat,Zu AR p i p/Zu AR p p p=q:=⟨_,rfl⟩;have r4:Hid (SmN 300 300 by_):=Zd (by rw[<- i7];exact hl.out i p Gk u f7.out);have n3:=(hs.out p i p Gk a0.out u).sm (i:=380) Gj Gj;have o5:=(hs.out p p p Gk a0.out U).sm (i:=380) Gj Gj;have F0:Hid (Zu AR p p p≠0):=Zd (λh=>by have:=f7.out p Gk;rw[<- l7.out,h]at this;exact absurd this Gj);replace i7:=Zd i7;have N8:=Zd fi;have N6:=Zd fr;clear fi fr;replace hM:=Zd hM;replace hK:=Zd hK;go_wp2_with fail
       have y:Hid (∀ wx,Below wi.heap.size wi wx->wx.cell? ⟨go,i,none⟩=some (.slice (some ⟨ri.g,0,none⟩) (n+1) ri.c)/\wx.cell? ⟨go,p,none⟩=some (.slice (some ⟨r2.g,0,none⟩) (n+1) r2.c)/\wx.cell? ⟨ri.g,p*4,none⟩=some (.bool n1)/\wx.cell? ⟨ri.g,p*4+1,none⟩=some (.slice A1 k1 c1)/\wx.cell? ⟨ri.g,p*4+2,none⟩=some (.bool m1)/\wx.cell? ⟨ri.g,p*4+3,none⟩=some (.slice B1 j1 d1)/\wx.cell? ⟨r2.g,p*4,none⟩=some (.bool n2)/\wx.cell? ⟨r2.g,p*4+1,none⟩=some (.slice A2 k2 c2)/\wx.cell? ⟨r2.g,p*4+2,none⟩=some (.bool m2)/\wx.cell? ⟨r2.g,p*4+3,none⟩=some (.slice B2 j2 d2)):=Zd (λwx f=>⟨Zc f ci,Zc f cr,Zc f p0,Zc f p1,Zc f p2,Zc f p3,Zc f q0,Zc f q1,Zc f q2,Zc f q3⟩);have I:Below wi.heap.size wi wi.drew:=Zh (Qc _ _) 1;refine wp_heldS [] hmx y I (λhxs1=>?_);refine Zkb 14 [0,1,2,3,4,5,6,7,8,9,10,11,12,13] rfl Gi (y.out _ I) ?_
       iterate 14 (refine tkA ?_;try simp only[Qe,Zg9,Zgn,Zg3,Gr,Gq,Gp])
       refine tk0 ?_;refine Za5 [(14,88),(15,11)] (λ_=>[]) [(14,88),(15,11)] (Zm4 wi.heap.size (Zu AR p i p/Zu AR p p p) 14 15) 1 Gi (λ_ _ _ _ _ hb h=>Ztq hb h) (λwx h=>y.out _ (Gs I h)) ?hop1 ?hfin1
       case hop1 =>
        intro p hp;simp only[List.mem_cons,List.not_mem_nil,or_false]at hp;simp only[Qt,Qu,Zaj,Qe,Zg9,Zgn,Zg3];rcases hp with rfl|rfl
        ·intro ν wx hb hP
         have f:=Gs I hb;refine Zn (i:=14) rfl (λK hK=>?_);go_simp;refine(Zmn n1 A1 k1 c1 m1 B1 j1 d1 n2 A2 k2 c2 m2 B2 j2 d2 _ _ wx (bK.below f) (v9.below f) n3 o5 F0.out).mono ?_;rintro e w5 ⟨H4,O7,A5,k5,c5,O5,B5,m5,d5,rfl,i6⟩;exact hK.out _ _ ⟨_,rfl,(by simp only[Zm4];exact⟨_,_,_,_,_,_,_,_,rfl,i6⟩),H4,trivial⟩
        intro ν wx hb hP;refine Zn (i:=15) rfl (λK hK=>?_);go_simp;exact hK.out _ _ ⟨_,rfl,(by simp only[Zm4];exact⟨_,rfl,hb.size,Qq _ _ _⟩),(Qc _ _).alloc (Qa _) _,trivial⟩
       case hfin1 =>
        intro ν wx hb hP;have h0:=hP (14,88) Gh;have h4:=hP (15,11) Gh;simp only[Zm4]at h0 h4;obtain⟨bbn,m8,bbk,bbc,bbm,n9,bbj,bbd,h0,bbf⟩:=h0;obtain⟨gbb,h4,kv,qv⟩:=h4;simp only[Qt,Qu,Zaj,Qe,Zg9,Zgn,Zg3];rw[h0,h4];clear h0 h4 hP ν;have f:=Gs I hb;have c8:=qv.four;have z3:wi.heap.size<=gbb:=kv;refine(Z5 bbn m8 bbk bbc bbm n9 bbj bbd f z3 qv).elim (λZbb hq=>?_);have c0:=c8.1;have l0:=c8.2.1;have G6:=c8.2.2.1;have c3:=c8.2.2.2.1;have f0:=c8.2.2.2.2.1;have f1:=c8.2.2.2.2.2.1;have f2:=c8.2.2.2.2.2.2.1;have f3:=c8.2.2.2.2.2.2.2;have hZ:=hq.1;refine wpAnyL_o 16 λK hK=>?_;go_simp;(try rw[hZ]);refine hK.out _ _ (λ_=>y.out _ hq.2.1) ?_;clear hK K
        try simp only[Qe,Zg9,Zgn,Zg3]
        refine wpAnyL_fin ?_;have e8:=hq.2.1;have bbb:=Zd hq.2.2.1;have A7:Hid (wi.heap.size<=gbb):=Zd z3;replace bbf:=Zd (Fr.keep bbf hq.2.2.2.1);clear hq hZ c0 l0 G6 c3 f0 f1 f2 f3 c8 qv kv z3 f hb I y hxs1;rw[i7.out]at bbf;have h8:=hM.out.below e8;have a7:Kept (λg=>g ∈ L.map RF.g) w1 Zbb:=hK.out.below e8
        have H5:Hid (gbb ∉ L.map RF.g):=Zd (λhmem=>by
         obtain⟨t,cs,hb,-⟩:=I6.out gbb hmem;have:=hb.lt;have:=hK.out.size;have:=A7.out;omega)
        have C6:Hid (∀ k,k ∈ L.map RF.g->∃ t cs,Blk Zbb k t cs/\NoLimb cs):=Zd (λk hk=>h8.boxes k (.inr (by rw[j8.out];exact hk)));have G4:Hid (ri.g ∈ L.map RF.g):=Zd (by rw[<- j8.out];exact List.mem_map.2 ⟨ri,Qi O,rfl⟩);have P8:Hid (r2.g ∈ L.map RF.g):=Zd (by rw[<- j8.out];exact List.mem_map.2 ⟨r2,Qi g5,rfl⟩);clear hK hM p0 p1 p2 p3 q0 q1 q2 q3 n3 o5 bK v9 ci cr zi zr e8;replace a7:=Zd a7;go_wp2_with fail
        go_loopg [12] (n+1-p) (λk iv wr=>∃ (j:Nat) (q3:List Rat),j+k=n+1/\iv=.int .i64 j/\p<=j/\MatB 35 41 wr go (L2.set i ⟨ri.g,ri.c,q3⟩)/\Hid (q3.length=n+1)/\Hid (∀ t:Nat,q3[t]?.getD 0=if p<=t/\t<j then (Zdi L1 i)[t]?.getD 0-by_*(Zdi L1 p)[t]?.getD 0 else (Zdi L1 i)[t]?.getD 0)/\Kept (λg=>g ∈ L.map RF.g) Zbb wr)
        case atStart =>
         refine⟨p,ri.q,by omega,rfl,Qa _,?_,Zd c7,Zd (λt=>by rw[Gw Gk,b1]),Qx _ _⟩
         have e:L2.set i ⟨ri.g,ri.c,ri.q⟩=L2:=by
          apply QC;intro t;rw[Qk]
          split
          rename_i h;subst h;rw[Gx (by rw[b2.out];exact u),O];rfl
         rw[e];exact h8
        case round =>
         clear h8;obtain⟨wj,rfl⟩:=Gy wr;obtain⟨j,q3,P4,rfl,F8,a6,h7,v4,c6⟩:=hrel;obtain⟨c0,z0⟩:=a6.cell (i:=i) (r:=⟨ri.g,ri.c,q3⟩) (by rw[Qk,Gx rfl,Gx (by rw[b2.out];exact u)]);simp only[h7.out]at c0;cases gk with
         | zero =>
          obtain rfl:j=n+1:=Gk;have t5:decide (((n+1:Nat):Int)<=(n:Int))=false:=Gu Gk;have P1:decide ((n:Int)+1<=(n:Int))=false:=Gu Gk
          have c9:Hid ((L2.set i ⟨ri.g,ri.c,q3⟩).length=n/\(L2.set i ⟨ri.g,ri.c,q3⟩).map RF.g=L.map RF.g/\(L2.set i ⟨ri.g,ri.c,q3⟩).map RF.c=L.map RF.c/\ClrTo L1 (L2.set i ⟨ri.g,ri.c,q3⟩) p p (i+1)):=Zd (by
           refine⟨by rw[Qv];exact b2.out,?_,?_,?_⟩;rw[Ze2 (s:=⟨ri.g,ri.c,q3⟩) O rfl];exact j8.out;rw[Ze2 (s:=⟨ri.g,ri.c,q3⟩) O rfl];exact r5.out;refine q4.out.step (by rw[b2.out,d0.out]) (by rw[d0.out];exact u) Gk ?_;refine rowR_eq (by rw[h7.out,a5.out i u]) (λt=>?_);rw[v4.out t,a5.out i u,hE.out i p u Gk,hE.out p p U Gk,i7.out])
          have I1:Hid (Kept (λg=>g ∈ L.map RF.g) w1 wj):=Zd (a7.out.trans c6);replace a6:=Zd a6;clear c6;go_wp2_with fail
          go_roundg (n-(i+1))
          case measure=>omega
          case rel=>exact⟨i+1,_,by omega,by go_num,by omega,a6.out,Zd c9.out.1,Zd c9.out.2.1,Zd c9.out.2.2.1,Zd c9.out.2.2.2,I1.out⟩
         | succ gk' =>
          obtain rfl:gk'=n-j:=Gk;have m9:j<n+1:=Gk;have t5:decide ((j:Int)<=(n:Int))=true:=Gv Gk;have bj:(j:Int)<(n:Int)+1:=Gk;have O4:(j:Int)<((n+1:Nat):Int):=Gk;obtain⟨l0,z1⟩:=a6.cell (i:=p) (r:=r2) (by rw[Qk,Gw Gk];exact g5);rw[o4]at l0;obtain⟨f3,-,-⟩:=a6.row (i:=i) (r:=⟨ri.g,ri.c,q3⟩) (by rw[Qk,Gx rfl,Gx (by rw[b2.out];exact u)]);obtain⟨f4,-,-⟩:=a6.row (i:=p) (r:=r2) (by rw[Qk,Gw Gk];exact g5);obtain⟨n4,A4,k4,c4,m4,B4,j4,d4,q0,q1,q2,D1,D8⟩:=f4.at_ (i:=j) (by rw[o4];exact m9);rw[x5]at D8;have B9:=c6.blk bbb.out H5.out;obtain⟨x0,x1,x2,x3,-⟩:=B9.four;have M3:Fr wj bbn m8 bbk bbc bbm n9 bbj bbd by_:=⟨c6.wd bbf.out.1 C6.out,c6.wd bbf.out.2 C6.out⟩;have q6:=h7.out;obtain⟨n5,A5,k5,c5,m5,B5,j5,d5,υ0,υ1,υ2,υ3,i6⟩:=f3.at_ (i:=j) (by rw[q6];exact m9)
          have q5:q3[j]?.getD 0=(Zdi L1 i)[j]?.getD 0:=by
           have h1:=v4.out j;rw[Gw Gk]at h1;exact h1
          simp only[q5]at i6;have v0:=f3.frozen (j*4);have v1:=f3.frozen (j*4+1);have v2:=f3.frozen (j*4+2);have v3:=f3.frozen (j*4+3);have L6:Hid (SmN 380 380 ((Zdi L1 i)[j]?.getD 0)):=Zd (by rw[hE.out i j u Gk];exact hs.out p i j Gk a0.out u);have E2:Hid (SmN 380 380 ((Zdi L1 p)[j]?.getD 0)):=Zd (by rw[hE.out p j U Gk];exact hs.out p p j Gk a0.out U);have n3:=r4.out.sm (i:=300) Gj Gj;have o5:=E2.out.sm (i:=380) Gj Gj;have L8:=L6.out.sm (i:=380) Gj Gj;have K8:Sm (by_*(Zdi L1 p)[j]?.getD 0):=(r4.out.mulN E2.out).sm Gj Gj;replace a6:=Zd a6;replace c6:=Zd c6;clear f4 B9 f3 q6 q5;go_wp2_with fail;obtain⟨X0,T⟩:=Gz wj.drew;have I:Below wj.heap.size wj X0:=by rw[<- T];exact Zh (Qc _ _) 1
          have y:Hid (∀ wx,Below wj.heap.size wj wx->wx.cell? ⟨go,i,none⟩=some (.slice (some ⟨ri.g,0,none⟩) (n+1) ri.c)/\wx.cell? ⟨go,p,none⟩=some (.slice (some ⟨r2.g,0,none⟩) (n+1) r2.c)/\wx.cell? ⟨ri.g,j*4,none⟩=some (.bool n5)/\wx.cell? ⟨ri.g,j*4+1,none⟩=some (.slice A5 k5 c5)/\wx.cell? ⟨ri.g,j*4+2,none⟩=some (.bool m5)/\wx.cell? ⟨ri.g,j*4+3,none⟩=some (.slice B5 j5 d5)/\wx.cell? ⟨gbb,0,none⟩=some (.bool bbn)/\wx.cell? ⟨gbb,1,none⟩=some (.slice m8 bbk bbc)/\wx.cell? ⟨gbb,2,none⟩=some (.bool bbm)/\wx.cell? ⟨gbb,3,none⟩=some (.slice n9 bbj bbd)/\wx.cell? ⟨r2.g,j*4,none⟩=some (.bool n4)/\wx.cell? ⟨r2.g,j*4+1,none⟩=some (.slice A4 k4 c4)/\wx.cell? ⟨r2.g,j*4+2,none⟩=some (.bool m4)/\wx.cell? ⟨r2.g,j*4+3,none⟩=some (.slice B4 j4 d4)):=Zd (λwx f=>⟨Zc f c0,Zc f l0,Zc f υ0,Zc f υ1,Zc f υ2,Zc f υ3,Zc f x0,Zc f x1,Zc f x2,Zc f x3,Zc f q0,Zc f q1,Zc f q2,Zc f D1⟩);refine wp_heldS [23] hmx y (by rw[T];exact I) (λhxs=>?_);rw[T];refine Zkb 20 [0,1,2,3,4,5,6,7,8,9,10,11,12,13,14,15,16,17,18,19] rfl Gi (y.out _ I) ?_
          iterate 20 (refine tkA ?_;try simp only[Qe,Zg9,Zgn,Zg3,Gr,Gq,Gp])
          refine tk0 ?_;refine wpAnyL_o 20 λK hK=>?_;go_simp;refine(Zlw bbn m8 bbk bbc bbm n9 bbj bbd n4 A4 k4 c4 m4 B4 j4 d4 _ _ X0 (M3.below I) (D8.below I) n3 o5).mono ?_;rintro e e5 ⟨d9,yn,yA,yk,yc,ym,yB,yj,yd,rfl,hy⟩;have C:=Gs I d9;refine hK.out _ _ (λ_=>y.out _ C) ?_;clear hK K
          try simp only[Qe,Zg9,Zgn,Zg3]
          refine wpAnyL_o 21 λK hK=>?_;go_simp;refine(Zl1 n5 A5 k5 c5 m5 B5 j5 d5 yn yA yk yc ym yB yj yd _ _ e5 (i6.below C) hy L8 K8).mono ?_;rintro e F2 ⟨l5,zn,zA,zk,zc,zm,zB,zj,zd,rfl,hz⟩;have J:=Gs C l5;refine hK.out _ _ (λ_=>y.out _ J) ?_;clear hK K
          try simp only[Qe,Zg9,Zgn,Zg3]
          refine Zgo 1 [22] rfl Gi (y.out _ J) ?_
          (refine tkA ?_;try simp only[Qe,Zg9,Zgn,Zg3,Gr,Gq,Gp])
          refine tk0 ?_;have n7:=a6.out.below J;obtain⟨Z9,d3⟩:=Gz (Zgg F2 ri.g j zn zA zk zc zm zB zj zd);have a8:=d3;unfold Zgg at a8;have v8:Hid (Kept (λg=>g ∈ L.map RF.g) Zbb Z9):=Zd (by rw[<- d3];exact Zpt (c6.out.below J) (.inl G4.out))
          have w3:Hid (MatB 35 41 Z9 go (L2.set i ⟨ri.g,ri.c,q3.set j ((Zdi L1 i)[j]?.getD 0-by_*(Zdi L1 p)[j]?.getD 0)⟩)):=Zd (by
           have h1:=n7.set_ (i:=i) (r:=⟨ri.g,ri.c,q3⟩) (by rw[Qk,Gx rfl,Gx (by rw[b2.out];exact u)]) (k:=j) (by rw[show RF.q ⟨ri.g,ri.c,q3⟩=q3 from rfl,h7.out];exact m9) hz;rw[List.set_set]at h1;rw[<- d3];exact h1)
          have f0:=Zo J υ0 v0;have f1:=Zo J υ1 v1;have f2:=Zo J υ2 v2;have f3:=Zo J υ3 v3;have g0:=Zc J υ0;have g1:=Zc J υ1;have g2:=Zc J υ2;have g3:=Zc J υ3;clear n7 d3;refine Zy (i:=23) rfl Gi Gi (λK hK=>?_);go_simp;(try rw[a8]);refine hK.out _ _ ?_;clear hK K
          try simp only[Qe,Zg9,Zgn,Zg3]
          refine wpAnyL_fin ?_;clear a8 f0 f1 f2 f3 g0 g1 g2 g3 J I y hxs T υ0 υ1 υ2 υ3 x0 x1 x2 x3 v0 v1 v2 v3 q0 q1 q2 D1 hz hy i6 a6 c6 c0 l0 z0 z1;go_wp2_with fail
          go_roundg (n-j)
          case measure=>omega
          case rel=>exact⟨j+1,_,by omega,by go_num,by omega,w3.out,Zd (by rw[Qv];exact h7.out),Zd (Z0b (by rw[h7.out,a5.out i u]) F8 (by rw[a5.out i u];exact m9) rfl v4.out),v8.out⟩
theorem Zjo{A:Nat->Nat->Rat}{n c:Nat}(h:∀ i,i<n->A i c=0):∀ t i,t<=n->i<n->Zu A t i c=0
 | 0,i,_,hi=>h i hi
 | t+1,i,ht,hi=>by
  show (if t<i then _ else _)=_;rw[Zjo h t i Gk hi,Zjo h t t Gk Gk]
  split
  ·grind
  rfl
theorem SmN.zeroC(a b:Nat):SmN (a+1) (b+1) 0:=⟨by have:=Zby (a+1);show (0:Rat).num.natAbs<_;exact this,by
 show (1:Nat)<pw (b+1);rw[Za6];have:=Zby b;omega⟩
section
variable{Q:List (List Rat)}{n:Nat}
theorem Zta(hm:∀ i,i<n->(Q[i]?.getD []).length=n){t i k:Nat}(ht:t<=n)(hi:i<n):Zu (Zj (Zcr Q (Qb n 0) n)) t i k=if k<n then Zu (Zj Q) t i k else 0:=by
 by_cases hk:k<n
 ·rw[Gx hk]
  exact Zcu (n:=n) (m:=n) (λi k hi hk=>Zy7 hm hi hk) (Qa _) t i k ht hi hk
 rw[Gw hk];refine Zjo (n:=n) (λi hi=>?_) t i ht hi;rcases Qh n k with h|h;exact Zvo hm hi h;obtain rfl:n=k:=Gk;rw[Zuv hm hi];simp[List.getElem?_replicate,hi]
theorem Zp3(hm:∀ i,i<n->(Q[i]?.getD []).length=n){i:Nat}(hi:i<n):dQ (Zj (Zcr Q (Qb n 0) n)) i=dQ (Zj Q) i:=by
 unfold dQ;rw[Zta hm Gk hi,Gx hi]
theorem Zip(hm:∀ i,i<n->(Q[i]?.getD []).length=n){t:Nat}(ht:t<=n):posP (Zj (Zcr Q (Qb n 0) n)) t ↔ posP (Zj Q) t:=
 ⟨λh s hs=>by rw[<- Zp3 hm Gk];exact h s hs,λh s hs=>by rw[Zp3 hm Gk];exact h s hs⟩
theorem wide0_l(hm:∀ i,i<n->(Q[i]?.getD []).length=n){i k:Nat}(hi:i<n)(hk:k<n):lQ (Zj (Zcr Q (Qb n 0) n)) i k=lQ (Zj Q) i k:=by
 unfold lQ;rw[Zp3 hm hk,Zta hm Gk hi,Gx hk]
theorem Zsz(hm:∀ i,i<n->(Q[i]?.getD []).length=n):SolvC (λi j=>Zu (Zj (Zcr Q (Qb n 0) n)) i i j) (λ_ _=>0) n:=by
 have hz:∀ (E:Nat->Nat->Rat) i t,upS E (λ_ _=>0) i n t=E i n:=λE i t=>by
  unfold upS
  have:Za7 t (λj=>if i<j then E i j*0 else 0)=0:=by
   induction t with
   | zero=>rfl
   | succ t ih=>simp only[Za7];rw[ih];split <;> grind
  rw[this];grind
 have hE:∀ i,Zu (Zj (Zcr Q (Qb n 0) n)) i i n=0 \/ n<=i:=λi=>by
  rcases Qh i n with h|h;left;rw[Zta hm Gk h,Gw Gk];exact .inr h
 refine⟨λi hi=>?_,λi=>SmN.zeroC 299 299,λi t=>?_⟩
 ·rw[hz]
  show (0:Rat)=Zu _ i i n/_;rcases hE i with h|h;rw[h];grind;omega
 rw[hz];show SmN 400 400 (Zu _ i i n);rcases hE i with h|h;rw[h];exact SmN.zeroC 399 399;have h0:∀ t,Zu (Zj (Zcr Q (Qb n 0) n)) t i n=0 \/ True:=λ_=>.inr trivial
 have h1:∀ t j,n<=j->Zu (Zj (Zcr Q (Qb n 0) n)) t j n=0:=λt=>by
  induction t with
  | zero =>
   intro j hj;show Zj _ j n=0;unfold Zj;rw[Qd (l:=Zcr Q _ n) (by rw[Zlj];exact hj)];rfl
  | succ t ih =>
   intro j hj;show (if t<j then _ else _)=_
   have h2:Zu (Zj (Zcr Q (Qb n 0) n)) t t n=0:=by
    rcases Qh t n with h3|h3;rw[Zta hm Gk h3,Gw Gk];exact ih t h3
   rw[ih j hj,h2]
   split
   ·grind
   rfl
 rw[h1 i i h];exact SmN.zeroC 399 399
end
theorem Zr9(n:Nat)(w:World)(hn9:n<=100) :
    Calls Tryz.prog 58 #[.int .i64 n] w λe w'=>∃ v,e=.returned v/\Below w.heap.size w w'/\OwnF 41 w' w.heap.size v (Qb n 0):=by
 obtain⟨iF,hi,U,a0,a1⟩:=info_parts Ze1;go_in;go_wp2_with fail
 go_loopg [3,4] n (λk ov iv wr=>∃ i:Nat,i+k=n/\iv=.int .i64 i/\Below w.heap.size w wr/\OwnF 41 wr w.heap.size ov (Qb i 0))
 case atStart=>exact⟨0,by omega,rfl,Qc _ _,OwnF.nil _ _ _⟩
 case round =>
  obtain⟨i,a5,rfl,hB,hO⟩:=hrel;cases gk with
  | zero =>
   obtain rfl:n=i:=Gk;have t1:decide ((n:Int)<(n:Int))=false:=Gh;replace hO:=Zd hO;go_wp2_with fail;go_ret;exact⟨_,rfl,hB,hO.out⟩
  | succ k' =>
   obtain rfl:k'=n-(i+1):=Gk;have a6:i<n:=Gk;have t1:decide ((i:Int)<(n:Int))=true:=Gv Gk;obtain⟨zA,zc,rfl,f⟩:=hO.fl;have C:(Qb i (0:Rat)).length=i:=Gh;rw[C]at f ⊢;replace hO:=Zd hO;replace f:=Zd f;go_wp2_with fail;refine(Zxo 0 wr Gj Gj).mono ?_;rintro e w1 ⟨y,xn,xA,xk,xc,xm,xB,xj,xd,rfl,hf⟩;obtain⟨Y1,h⟩:=Gz (w1.alloc (.cells #[.bool xn,.slice xA xk xc,.bool xm,.slice xB xj xd] 41));have u:Below w1.heap.size w1 Y1:=by rw[<- h];exact(Qc _ _).alloc (Qa _) _
   have T:Blk Y1 w1.heap.size 41 #[.bool xn,.slice xA xk xc,.bool xm,.slice xB xj xd]:=by rw[<- h];exact Qq _ _ _
   have V:Fr Y1 xn xA xk xc xm xB xj xd 0:=hf.below u;have o:=(hO.out.kept y).kept u;have O:=hB.trans ((Gs y u).mono hB.size);have I:=O.size;rw[C]at o;go_wp2_with ((try rw[h]);at_builtin;refine Zdt _ rfl (.tmp 10) (.tmp 12) 35 rfl w.heap.size 41 iF Tryz.underlying35 hi U a0 a1 _ _ rfl o _ (some ⟨w1.heap.size,0,none⟩) 1 1 [⟨xn,xA,xk,xc,xm,xB,xj,xd,0⟩] rfl (Zcn _ T) rfl (by intro e he;rw[QA]at he;subst he;exact V) Gg I ?_;intro v2 w5 J a3 a4);have a2:=O.grown a3 I (λk hk=>o.row_ge k hk);simp only[Qt,Qu]at J
   go_roundg (n-(i+1))
   case measure=>omega
   case rel=>exact⟨i+1,by omega,by go_num,a2,by rw[List.replicate_succ'];exact J⟩
theorem IJ{G:Prop}(h:G:=by
 go_wp2_with fail;go_ret;exact⟨rfl,cW.trans ((Gs ao eV).mono cW.size)⟩):G:=h
theorem Zgx(A:Option Addr)(n c:Nat)(rs:List RX)(w:World)(h:MXL w A n c rs)(hF:FacC rs)(E:Int)(hE:Za9 rs=E) :
    Calls Tryz.prog 16 #[.slice A n c] w λe w'=>e=.returned (.int .i64 E)/\Below w.heap.size w w':=by
 have hmx:=Gt;have hl:=Zd h.1;have c5:=h.2.1;have b6:=h.2.2.1;unfold maxLen at b6;replace hE:=Zd hE;by_cases h6:6<n
 ·have t1:decide ((6:Int)<(n:Int))=true:=Gv Gk
  obtain rfl:E=4:=by rw[<- hE.out];exact Zfz (by unfold long6;rw[hl.out,Gv h6];rfl)
  clear h;go_in;exact Fl
 have t1:decide ((6:Int)<(n:Int))=false:=Gu Gk;have hH:=Zd h;clear h;go_in;go_wp2_with fail
 go_loopg [3] n (λt iv wr=>∃ i:Nat,i+t=n/\iv=.int .i64 i/\Hid (∀ j r,j<i->rs[j]?=some r->r.long6=false)/\Below w.heap.size w wr)
 case atStart=>exact⟨0,by omega,rfl,Zd (λj r hj=>by omega),Qc _ _⟩
 case round =>
  obtain⟨w1,rfl⟩:=Gy wr;obtain⟨i,b8,rfl,C,T⟩:=hrel;cases gk with
  | succ t =>
   obtain rfl:t=n-(i+1):=Gk;have a7:i<n:=Gk;have t2:decide ((i:Int)<(n:Int))=true:=Gv Gk;have bi:(i:Int)<(n:Int):=Gk;obtain⟨g,o,r,rfl,he,c0,hL⟩:=(hH.out.below T).at_ a7;have U:=hL.nlenC;unfold maxLen at U;clear hL;by_cases hx:6<r.n
   ·have t3:decide ((6:Int)<(r.n:Int))=true:=Gv Gk
    obtain rfl:E=4:=by
     rw[<- hE.out];refine Zfz ?_;unfold long6;have:rs.any RX.long6=true:=List.any_eq_true.2 ⟨r,Qi he,by unfold RX.long6;exact Gv hx⟩;rw[this,Bool.or_true]
    replace he:=Zd he;replace hx:=Zd hx;go_wp2_with fail;go_ret;exact⟨rfl,T⟩
   have t3:decide ((6:Int)<(r.n:Int))=false:=Gu Gk
   have ay:Hid (∀ j r',j<i+1->rs[j]?=some r'->r'.long6=false):=Zd (λj r' hj he'=>by
    rcases Qh j i with h'|h';exact C.out j r' h' he';obtain rfl:j=i:=Gk;rw[he]at he';cases he';unfold RX.long6;exact Gu hx)
   replace he:=Zd he;replace hx:=Zd hx;go_wp2_with fail
   go_roundg (n-(i+1))
   case measure=>omega
   case rel=>exact⟨i+1,by omega,by go_num,ay,T⟩
  | zero =>
   obtain rfl:n=i:=Gk;have t2:decide ((n:Int)<(n:Int))=false:=Gh
   have a6:Hid (long6 rs=false):=Zd (by
    unfold long6;rw[hl.out,Gu h6,Bool.false_or,List.any_eq_false];intro r hr;obtain⟨j,hj,e⟩:=Qm hr;have:=C.out j r (by rw[hl.out]at hj;exact hj) (by rw[Qf hj,e]);rw[this];decide)
   by_cases u:n=0
   ·have t3:((n:Int) == 0)=true:=by simp[u]
    have b3:decide (n=0)=true:=by simpa using u
    obtain rfl:E=8:=by rw[<- hE.out];exact Zr2 a6.out (by rw[hl.out];exact u)
    replace u:=Zd u;go_wp2_with fail;go_ret;exact⟨rfl,T⟩
   have t3:((n:Int) == 0)=false:=by simp;omega
   have b3:decide (n=0)=false:=by simpa using u
   replace u:=Zd u;replace h6:=Zd h6;go_wp2_with fail
   go_loopg [4] n (λt iv wr=>∃ i:Nat,i+t=n/\iv=.int .i64 i/\Hid (∀ j r,j<i->rs[j]?=some r->Zdb rs.length r=true)/\Below w.heap.size w wr)
   case atStart=>exact⟨0,by omega,rfl,Zd (λj r hj=>by omega),T⟩
   case round =>
    clear T C;obtain⟨wi,rfl⟩:=Gy wr;obtain⟨i,b8,rfl,C,bX⟩:=hrel;cases gk with
    | succ t =>
     obtain rfl:t=n-(i+1):=Gk;have a7:i<n:=Gk;have t4:decide ((i:Int)<(n:Int))=true:=Gv Gk;have bi:(i:Int)<(n:Int):=Gk;obtain⟨g,o,r,rfl,he,c0,hL⟩:=(hH.out.below bX).at_ a7;have U:=hL.nlenC;unfold maxLen at U;have bad:Hid (Zdb rs.length r=false->Za9 rs=8):=Zd (λhf=>Zrm a6.out (by rw[hl.out];exact u.out) (Qi he) hf)
     have good:Hid (Zdb rs.length r=true->∀ j r',j<i+1->rs[j]?=some r'->Zdb rs.length r'=true):=Zd (λhf j r' hj he'=>by
      rcases Qh j i with h'|h';exact C.out j r' h' he';obtain rfl:j=i:=Gk;rw[he]at he';cases he';exact hf)
     replace he:=Zd he;by_cases hq:r.n=n
     case neg =>
      have t5:((r.n:Int) == (n:Int))=false:=beq_eq_false_iff_ne.2 Gk;have b4:((r.n:Int) != (n:Int))=true:=by rw[bne,t5];rfl
      have b1:decide (r.n=n)=false:=by simpa using hq
      obtain rfl:E=8:=by rw[<- hE.out];exact bad.out (by unfold Zdb;rw[hl.out,Gu hq];rfl)
      replace hq:=Zd hq;clear hL;go_wp2_with fail;go_ret;exact⟨rfl,bX⟩
     have t5:((r.n:Int) == (n:Int))=true:=beq_iff_eq.2 Gk;have b4:((r.n:Int) != (n:Int))=false:=by rw[bne,t5];rfl
     have b1:decide (r.n=n)=true:=by simpa using hq
     obtain⟨y,hy⟩:=Gz (Zc2 r.es);have hV:=Zd (λW1 (hb:Below wi.heap.size wi W1)=>Zos r.A r.n r.c r.es W1 (hL.below hb) y hy);have b7:=Zd hq;replace hq:=Zd hq;clear hL;cases y
     ·obtain rfl:E=8:=by rw[<- hE.out];exact bad.out (by unfold Zdb;rw[hy];simp)
      clear hy;go_wp2_with fail;refine(hV.out _ (by first|exact Qc _ _|exact Zh (Qc _ _) _)).mono ?_;rintro e' w2 ⟨rfl,aa⟩;go_wp2_with fail;go_ret;exact⟨rfl,Gs bX aa⟩
     have ay:=Zd (good.out (by unfold Zdb;rw[hy,hl.out,b7.out,Gv rfl];rfl));clear hy;go_wp2_with fail;refine(hV.out _ (by first|exact Qc _ _|exact Zh (Qc _ _) _)).mono ?_;rintro e' w2 ⟨rfl,aa⟩;exact Ip
    | zero =>
     obtain rfl:n=i:=Gk;have t4:decide ((n:Int)<(n:Int))=false:=Gh
     have hV:Hid (covV rs):=Zd ⟨a6.out,by rw[hl.out];exact u.out,by
      rw[List.all_eq_true];intro r hr;obtain⟨j,hj,e⟩:=Qm hr;exact C.out j r (by rw[hl.out]at hj;exact hj) (by rw[Qf hj,e])⟩
     have hM:=Zd (hV.out.good (hH.out.below bX));have c6:Hid (∀ a b,Sm (Zj (qM rs) a b)):=Zd (λa b=>(hV.out.small64 hH.out).smC Gj a b);have f:Hid (∀ a,a<n->((qM rs)[a]?.getD []).length=n):=Zd (λa ha=>hV.out.row hH.out a ha);go_wp2_with fail
     go_loopg [5] n (λt jv wr=>∃ j:Nat,j+t=n/\jv=.int .i64 j/\Hid (∀ a b,a<j->b<a->Zj (qM rs) a b=Zj (qM rs) b a)/\Below wi.heap.size wi wr)
     case atStart=>exact⟨0,by omega,rfl,Zd (λa b ha=>by omega),Qc _ _⟩
     case round =>
      obtain⟨wj,rfl⟩:=Gy wr;obtain⟨j,c4,rfl,a9,O⟩:=hrel;have cW:=Gs bX O;cases gk with
      | zero =>
       obtain rfl:n=j:=Gk;have t5:decide ((n:Int)<(n:Int))=false:=Gh
       have hs:Hid (Zhf (qM rs)=true):=Zd (by
        unfold Zhf;rw[decide_eq_true_eq];intro a ha b hb;rw[show (qM rs).length=n by unfold qM;rw[Qg,hl.out]]at ha;exact a9.out a b ha hb)
       have b0:Hid (FacP (Zj (qM rs)) n):=Zd (by have:=hF hV.out hs.out;rw[hl.out]at this;exact this);go_wp2_with fail;refine(Zr9 n wj (by have:=h6.out;omega)).mono ?_;rintro e w5 ⟨v,rfl,ao,hO⟩;obtain⟨zA,zc,rfl,hz⟩:=hO.fl;have U:(Qb n (0:Rat)).length=n:=Gh;rw[U]at hz ⊢;replace hz:=Zd hz;clear hO;go_wp2_with fail;refine(Zqz A n c (qM rs) zA zc _ w5 (hM.out.below (Gs O ao)) hz.out (by have:=u.out;omega) (by have:=h6.out;omega) f.out (λt i k ht hp hi=>?_) (λi k hk hi hp=>?_) (λ_ _=>0) (λ_=>Zsz f.out)).mono ?_
       ·rw[Zta f.out ht hi]
        split
        rename_i h1;exact b0.out.s t i k ht ((Zip f.out ht).1 hp) hi h1;exact SmN.zeroC 379 379
       ·rw[wide0_l f.out hi Gk]
        exact b0.out.l i k hk hi ((Zip f.out Gk).1 hp)
       rintro e w6 ⟨eV,⟨hp,B,c',rfl,-⟩|⟨hp,rfl⟩⟩
       ·obtain rfl:E=0:=by rw[<- hE.out];exact hV.out.pos hs.out (by rw[hl.out];exact(Zip f.out (Qa _)).1 hp)
        exact IJ
       obtain rfl:E=8:=by rw[<- hE.out];exact hV.out.neg hs.out (by rw[hl.out];exact λh=>hp ((Zip f.out (Qa _)).2 h))
       exact IJ
      | succ t =>
       obtain rfl:t=n-(j+1):=Gk;have a2:j<n:=Gk;have t5:decide ((j:Int)<(n:Int))=true:=Gv Gk;have bj:(j:Int)<(n:Int):=Gk;go_wp2_with fail
       go_loopg [6] j (λt kv wr=>∃ k:Nat,k+t=j/\kv=.int .i64 k/\Hid (∀ b,b<k->Zj (qM rs) j b=Zj (qM rs) b j)/\Below wj.heap.size wj wr)
       case atStart=>exact⟨0,by omega,rfl,Zd (λb hb=>by omega),Qc _ _⟩
       case round =>
        obtain⟨wk,rfl⟩:=Gy wr;obtain⟨k,c1,rfl,a8,V⟩:=hrel;cases gk with
        | zero =>
         obtain rfl:j=k:=Gk;have t6:decide ((j:Int)<(j:Int))=false:=Gh
         have b2:Hid (∀ a b,a<j+1->b<a->Zj (qM rs) a b=Zj (qM rs) b a):=Zd (λa b ha hb=>by
          rcases Qh a j with h'|h';exact a9.out a b h' hb;obtain rfl:a=j:=Gk;exact a8.out b hb)
         go_wp2_with fail
         go_roundg (n-(j+1))
         case measure=>omega
         case rel=>exact⟨j+1,by omega,by go_num,b2,Gs O V⟩
        | succ t' =>
         obtain rfl:t'=j-(k+1):=Gk;have c3:k<j:=Gk;have t6:decide ((k:Int)<(j:Int))=true:=Gv Gk;have bk:(k:Int)<(j:Int):=Gk;have bki:(k:Int)<(n:Int):=Gk;have a4:=Gs O V;obtain⟨g,o,A',n',c',rfl,c0,hR⟩:=(hM.out.below a4).at_ a2;have b5:n=n':=by rw[<- hR.len];exact(f.out j a2).symm
         subst b5;have a5:=hR.cap;unfold maxLen at a5;obtain⟨ga,oa,xn,xA,xk,xc,xm,xB,xj,xd,rfl,⟨r0,r1,r2,r3⟩,hX⟩:=hR.at_ (show k<n by omega);obtain⟨A2,n2,c2,ck,a0⟩:=(hM.out.below a4).atS (show k<n by omega);have b9:n=n2:=by rw[<- a0.len];exact(f.out k Gk).symm
         subst b9;have Y:=a0.cap;unfold maxLen at Y;obtain⟨gb,ob,yn,yA,yk,yc,ym,yB,yj,yd,rfl,⟨s0,s1,s2,s3⟩,hY⟩:=a0.at_ a2;have eX:((qM rs)[j]?.getD [])[k]?.getD 0=Zj (qM rs) j k:=rfl;have eY:((qM rs)[k]?.getD [])[j]?.getD 0=Zj (qM rs) k j:=rfl;rw[eX]at hX;rw[eY]at hY;replace hX:=Zd hX;replace hY:=Zd hY;clear eX eY a0 hR;go_wp2_with fail;obtain⟨X0,a3⟩:=Gz wk.drew;have J:Below wk.heap.size wk X0:=by rw[<- a3];exact Zh (Qc _ _) 1
         have I:Hid (∀ wx,Below wk.heap.size wk wx->wx.cell? ⟨g,o+j,none⟩=some (.slice (some ⟨ga,oa,none⟩) n c')/\wx.cell? ⟨ga,oa+k*4,none⟩=some (.bool xn)/\wx.cell? ⟨ga,oa+k*4+1,none⟩=some (.slice xA xk xc)/\wx.cell? ⟨ga,oa+k*4+2,none⟩=some (.bool xm)/\wx.cell? ⟨ga,oa+k*4+3,none⟩=some (.slice xB xj xd)/\wx.cell? ⟨g,o+k,none⟩=some (.slice (some ⟨gb,ob,none⟩) n c2)/\wx.cell? ⟨gb,ob+j*4,none⟩=some (.bool yn)/\wx.cell? ⟨gb,ob+j*4+1,none⟩=some (.slice yA yk yc)/\wx.cell? ⟨gb,ob+j*4+2,none⟩=some (.bool ym)/\wx.cell? ⟨gb,ob+j*4+3,none⟩=some (.slice yB yj yd)):=Zd (λwx hbx=>⟨Zc hbx c0,Zc hbx r0,Zc hbx r1,Zc hbx r2,Zc hbx r3,Zc hbx ck,Zc hbx s0,Zc hbx s1,Zc hbx s2,Zc hbx s3⟩);refine wp_heldS [] hmx I (by rw[a3];exact J) (λhxs=>?_);rw[a3];refine Zkb 14 [0,1,2,3,4,5,6,7,8,9,10,11,12,13] rfl Gi (I.out _ J) ?_
         iterate 14 (refine tkA ?_;try simp only[Qe,Zg9,Zgn,Zg3,Gr,Gq,Gp])
         refine tk0 ?_;obtain⟨z,hz⟩:∃ z,decide (Zj (qM rs) j k=Zj (qM rs) k j)=z:=⟨_,rfl⟩;refine wpAnyL_o 14 λK hK=>?_;go_simp;refine(Zvc xn xm yn ym xA xB yA yB xk xc xj xd yk yc yj yd _ _ X0 (hX.out.below J) (hY.out.below J) z hz).mono ?_;rintro e w5 ⟨rfl,ao⟩;have a1:=Gs J ao;refine hK.out _ _ (λ_=>I.out _ a1) ?_;clear hK K
         try simp only[Qe,Zg9,Zgn,Zg3]
         refine Zgo 1 [15] rfl Gi (I.out _ a1) ?_
         (refine tkA ?_;try simp only[Qe,Zg9,Zgn,Zg3,Gr,Gq,Gp])
         refine tk0 ?_;refine wpAnyL_fin ?_;have aJ:Hid (Below wj.heap.size wj w5):=Zd (Gs V a1);clear I hxs J a1 ao a3 r0 r1 r2 r3 s0 s1 s2 s3 ck c0 hX hY;cases z
         ·obtain rfl:E=8:=by
            rw[<- hE.out];refine hV.out.asym ?_;cases hb:Zhf (qM rs)with
            | false=>rfl
            | true=>exact absurd (symB_iff.1 hb j k (by unfold qM;rw[Qg,hl.out];exact a2) (by unfold qM;rw[Qg,hl.out];omega)) (of_decide_eq_false hz)
          replace hz:=Zd hz;go_wp2_with fail;go_ret;exact⟨rfl,Gs cW aJ.out⟩
         have eJ:Hid (∀ b,b<k+1->Zj (qM rs) j b=Zj (qM rs) b j):=Zd (λb hb=>by
           rcases Qh b k with h'|h';exact a8.out b h';obtain rfl:b=k:=Gk;exact of_decide_eq_true hz)
         replace hz:=Zd hz;exact IU
def OfXR(rs:List RI)(ws:List Int)(X:Nat->Nat->Rat):Prop:=
 ofE rs ws=0->OfP rs ws rs.length (n0I rs) X/\Zha (Zj (Zbl (n0I rs) 0 0 (Zbk (Zdc rs ws rs.length (n0I rs)) (n0I rs) (n0I rs) 0) false).1) X (n0I rs) (n0I rs+n0I rs)
theorem Zl6{rt:List RX}{Q:List (List Rat)}(h:Zfw rt=Zfv Q):qM rt=Q:=by
 rw[sig_qM,h];unfold Zfv;rw[List.map_map]
 have e:((λx:Nat × List (Nat × Bool × Rat)=>x.2.map λy=>y.2.2) ∘ λr:List Rat=>(r.length,r.map λq=>(Zjh q,true,q)))=id:=by
  funext r
  simp[Function.comp_def]
 rw[e,List.map_id]
section
variable{X:Nat->Nat->Rat}{m:Nat}
theorem Zme:(ofQ X m).length=m:=by simp[ofQ]
theorem Zwf{i:Nat}(hi:i<m):((ofQ X m)[i]?.getD []).length=m:=by
 unfold ofQ;rw[Qj,Ql hi];simp
theorem ofQ_ent{i j:Nat}(hi:i<m)(hj:j<m):Zj (ofQ X m) i j=X i (m+j)*Zeb:=by
 unfold ofQ Zj;exact Fd
theorem Zwb{rt:List RX}{D b e:Nat}(hsig:Zfw rt=Zfv (ofQ X m))(hD:0<D)(hDe:D<=pw e)(hB:∀ i j,i<m->j<m->BndQ (pw b) ((D:Nat)*(X i (m+j)*Zeb)))(h1:m<=6->(b+1)*m<300)(h2:m<=6->(b+1)*m+e<380):FacC rt:=λhV hs=>by
 have hq:=Zl6 hsig
 have hl:rt.length=m:=by
  have h9:=congrArg List.length hsig;unfold Zfw Zfv at h9;rw[Qg,Qg,Zme]at h9;exact h9
 have h6:m<=6:=by have:=hV.facts.2.1;omega
 rw[hl];refine FacP.unif (D:=D) (b:=b) (e:=e) (by rw[hq,Zme]) Gk (λi hi=>by rw[hq];exact Zwf hi) (λi k hi hk=>symB_iff.1 hs i k (by rw[hq,Zme];exact hi) (by rw[hq,Zme];exact hk)) hD hDe (λi j hi=>?_) (h1 h6) (h2 h6);rcases Qh j m with h9|h9;rw[hq,ofQ_ent hi h9];exact hB i j hi h9
 have e0:Zj (qM rt) i j=0:=by
   unfold Zj;rw[Qd (by rw[hq,Zwf hi];exact h9)];rfl
 rw[e0];have e1:((D:Nat):Rat)*0=0:=by grind
 rw[e1];exact BndQ.zero
end
theorem Z0y{rs:List RI}{ws:List Int}(h:ofE rs ws=0):rs.any RI.long6=false/\Zd8 rs (Qb (min rs.length 200) 0) ws=0/\Zay (n0I rs) (Zew rs ws rs.length)≠0:=by
 cases hb:rs.any RI.long6 with
 | true=>rw[Zsb hb]at h;exact absurd h Gj
 | false =>
  by_cases hE:Zd8 rs (Qb (min rs.length 200) 0) ws=0
  ·refine⟨rfl,hE,λhd=>?_⟩
   rw[Zwp hb hE hd]at h;exact absurd h Gj
  rw[Zwh hb rfl hE]at h;exact absurd h hE
theorem Z1t:BndQ (pw 2) Zeb:=⟨1000000000000000000,rfl,by decide +kernel⟩
theorem of_all{w:World}{A:Option Addr}{n c m k:Nat}{rs:List RI}{ws:List Int}(h:MIL w A n c rs)(hG:ModI rs n m k):∃ X,OfX rs ws X/\OfXR rs ws X/\∀ rt,Zfw rt=Zfv (ofQ X (n0I rs))->FacC rt:=by
 by_cases h0:ofE rs ws=0
 ·obtain⟨hb,hE,hd⟩:=Z0y h0
  obtain⟨p1,p2,p3,p4,p5,p6,p7⟩:=Zwm h hE;have y:rs.length=n:=h.1
  have u:n0I rs<=4:=by
   obtain⟨r,hr⟩:∃ r,rs[0]?=some r:=⟨_,Qf Gk⟩;have h1:=(hG.1 0 r p1 Gk hr).1;have h2:=p7 r (Qi hr);omega
  obtain⟨o1,o2,o3,o4,o5,o6,o7⟩:=Zv5 (rs:=rs) (rr:=Qb (min rs.length 200) 0) (ws:=ws) (n:=rs.length) (m:=n0I rs) Gk p4 hE
  have hr:(Zbl (n0I rs) 0 0 (Zbk (Zdc rs ws rs.length (n0I rs)) (n0I rs) (n0I rs) 0) false).2.1=n0I rs:=by
   rcases Qh (Zbl (n0I rs) 0 0 (Zbk (Zdc rs ws rs.length (n0I rs)) (n0I rs) (n0I rs) 0) false).2.1 (n0I rs)with h9|h9;exact absurd (o6 h9) hd;omega
  obtain⟨-,X,x1,x2,x3⟩:=o7 hr;refine⟨X,λ_=>⟨x3,x2⟩,λ_=>⟨x3,x1⟩,λrt hsig=>?_⟩;obtain⟨-,D,d1,d2,d3⟩:=x3;refine Zwb (D:=D) (b:=22) (e:=20) hsig d1 (Qn d2 (Zca Gk)) (λi j hi hj=>?_) (λ_=>by omega) (λ_=>by omega);obtain⟨z,hz,o⟩:=d3 j i hj hi
  have f:((D:Nat):Rat)≠0:=λe=>by
   have:D=0:=by exact_mod_cast e
   omega
  have e:((D:Nat):Rat)*(X i (n0I rs+j)*Zeb)=(z:Rat)*Zeb:=by
   rw[hz]
   have e2:((D:Nat):Rat)*((z:Rat)/((D:Nat):Rat))=(z:Rat):=by
    rw[Rat.div_def,<- Qy,Rat.mul_comm ((D:Nat):Rat) (z:Rat),Qy,Rat.mul_inv_cancel _ f,Rat.mul_one]
   rw[<- Qy,e2]
  rw[e];refine(BndQ.mul (⟨z,rfl,o⟩:BndQ (pw (5*n0I rs)) (z:Rat)) Z1t).mono ?_;rw[<- Zdw];exact Zca Gk
 refine⟨λ_ _=>0,λh9=>absurd h9 h0,λh9=>absurd h9 h0,λrt hsig=>?_⟩;refine Zwb (D:=1) (b:=0) (e:=0) hsig Gj Gj (λi j _ _=>?_) (λ_=>by omega) (λ_=>by omega);have e:((1:Nat):Rat)*(0*Zeb)=0:=by grind
 rw[e];exact BndQ.zero
section
variable{k n m:Nat}{R:List (List Rat)}
end
section
variable{k n m:Nat}{R:List (List Rat)}
end
def Zh5(rs:List RX)(es:List FX):Int:=if Za9 rs≠0 then Za9 rs else if es.length=rs.length/\Zc2 es=true then 0 else 8
def Zra(es:List FX)(i:Nat):Rat:=(es.map FX.q)[i]?.getD 0
def Zpf(rs:List RX)(es:List FX):Rat:=bil (Zj (qM rs)) rs.length (Zra es) (Zra es)
def DistPost(rs:List RX)(es:List FX)(w:World)(e:Ending)(w':World):Prop:=
 Below w.heap.size w w'/\((Zh5 rs es=0/\∃ na A n c nb B m d,e=.returned (.tuple #[.agg #[.bool na,.slice A n c,.bool nb,.slice B m d],.int .i64 0])/\Fr w' na A n c nb B m d (Zpf rs es)) \/
  (Zh5 rs es≠0/\e=.returned (.tuple #[.agg #[.bool false,.slice none 0 0,.bool false,.slice none 0 0],.int .i64 (Zh5 rs es)])))
theorem DistPost.fall{rs:List RX}{es:List FX}{w w':World}{E:Int}(hb:Below w.heap.size w w')(h:Zh5 rs es=E)(h0:E≠0):DistPost rs es w (.returned (.tuple #[.agg #[.bool false,.slice none 0 0,.bool false,.slice none 0 0],.int .i64 E])) w':=by
 subst h;exact⟨hb,.inr ⟨h0,rfl⟩⟩
section
variable{rs:List RX}{es:List FX}{E:Int}
theorem Zpn(h:Za9 rs=E)(h0:E≠0):Zh5 rs es=E:=by subst h;exact Gx h0
theorem Zky(h:Za9 rs=0)(hb:¬ (es.length=rs.length/\Zc2 es=true)):Zh5 rs es=8:=by
 unfold Zh5;rw[Gw (by simp[h])];exact Gw hb
theorem Zrw(h:Za9 rs=0)(hb:es.length=rs.length/\Zc2 es=true):Zh5 rs es=0:=by
 unfold Zh5;rw[Gw (by simp[h])];exact Gx hb
end
theorem Zvu(na:Bool)(A:Option Addr)(n c:Nat)(nb:Bool)(B:Option Addr)(m d:Nat)(w:World):(Instr.field 73 (.agg #[.bool na,.slice A n c,.bool nb,.slice B m d]) 0).run Tryz.prog w=.ok (.agg #[.bool na,.slice A n c,.bool nb,.slice B m d]) w:=by kernel_rfl
theorem EJ{G:Prop}(h:G:=by
 obtain⟨U,hU,bP,q3,-,kq,-⟩:=Zak 8 bl (Nat.le_succ _) (hk _ _ _ (q1.out));rw[hV,hU]at hw;subst hw;have r4:=q3.cell 0;simp at r4;obtain⟨d0,d1,d2,d3,-⟩:=(kq _ _ _ Gk (hk _ _ _ (q0.out))).four;exact⟨.tuple #[.agg #[.bool false,.slice none 0 0,.bool false,.slice none 0 0],.int .i64 8],by simp[results,Tryz.results25,go_sem,r4,d0,d1,d2,d3],DistPost.fall bP be.out (by first|decide|assumption|exact eu.out)⟩):G:=h
theorem Zoo(A V:Option Addr)(n c nv cv:Nat)(rs:List RX)(es:List FX)(w:World)(h:MXL w A n c rs)(hF:FacC rs)(hv:FXL w V nv cv es)(hS:Zh5 rs es=0->Zst (Zj (qM rs)) rs.length (Zra es)) :
    Calls Tryz.prog 25 #[.slice A n c,.slice V nv cv] w (DistPost rs es w):=by
 have a0:=Zd h.1;have c0:=Zd hv.1;have e5:=h.2.1;have c5:=h.2.2.1;have d9:=hv.2.1;have b9:=hv.2.2.1;unfold maxLen at c5 b9;obtain⟨W0,b8,y,⟨q0,q1⟩,s0⟩:=Zda w 41 #[.bool false,.slice none 0 0,.bool false,.slice none 0 0] 26 #[.int .i64 0];have hC:=Zd (Zim A n c rs W0 (h.below y) hF);have hH:=Zd (h.below y);have C:=Zd (hv.below y);replace hS:=Zd hS;replace q0:=Zd q0;replace q1:=Zd q1;replace y:=Zd y;clear h hv hF;replace s0:=Zd s0
 go_enter_defers Tryz.func25,Tryz.ntmps25
 go_wp2_with fail;(try rw[b8]);clear b8;refine hC.out.mono ?_;rintro e w1 ⟨O,⟨h0,v1,v2,L0,rfl,b2⟩|⟨h0,rfl⟩⟩
 case inr =>
  have a1:=Gs y.out O;have k0:=Ze O q0.out;have k1:=Ze O q1.out;obtain⟨E,hE⟩:=Gz (Za9 rs);rw[hE]at h0 ⊢;have eu:=Zd h0;have be:=Zpn (es:=es) hE h0;replace hE:=Zd hE;go_wp2_with fail;refine leaves_cons (f:=39) (args:=#[.pointer (some ⟨w.heap.size+1,0,none⟩)]) Gh Gd ?_;have e0:=(k1).cell 0;simp at e0;refine(Za4 ⟨w.heap.size+1,0,none⟩ E 0 _ e0 ((k1).frozen 0)).mono ?_;rintro e u' w'' ⟨rfl,rfl,hw⟩;obtain⟨V,hV,bl,-,-,hk,sV⟩:=Zq 117 #[.int .i64 E] (a1) ((a1).size);obtain⟨U,hU,bP,q3,-,kq,-⟩:=Zak E bl (Nat.le_succ _) (hk _ _ _ (k1));rw[hV,hU]at hw;subst hw;have r4:=q3.cell 0;simp at r4;obtain⟨d0,d1,d2,d3,-⟩:=(kq _ _ _ Gk (hk _ _ _ (k0))).four;exact⟨.tuple #[.agg #[.bool false,.slice none 0 0,.bool false,.slice none 0 0],.int .i64 E],by simp[results,Tryz.results25,go_sem,r4,d0,d1,d2,d3],DistPost.fall bP be (by first|decide|assumption|exact eu.out)⟩
 obtain⟨A1,c1,e1,o⟩:=b2.1.mflA;obtain⟨A2,c2,e2,u⟩:=b2.2.1.fl;rw[Zf0]at e1 o;rw[Zj0]at e2 u;rw[a0.out]at e1 o e2 u;subst e1;subst e2;have c4:=o.2.1;have a6:=o.2.2.1;have b3:=u.cap;unfold maxLen at a6 b3;obtain⟨b7,d4,a9⟩:=Zhp h0;have c7:n<=6:=by rw[<- a0.out];exact b7.facts.2.1
 rw[a0.out]at a9;have hp:=Zd a9;replace o:=Zd o;replace u:=Zd u;replace h0:=Zd h0;have a1:=Gn y O;replace q0:=Gm O q0;replace q1:=Gm O q1;replace C:=Zd (C.out.below O);clear b2 b7 d4 a9 hC hH y O L0;obtain⟨g1,Y⟩:=Gz w1.heap.size;obtain⟨V3,a7,q5,T⟩:=Zaq (w:=w1) 99 #[.slice A1 n c1,.slice A2 n c2];rw[Y]at q5;replace o:=Zd (o.out.below T);replace u:=Zd (u.out.below T);replace q0:=Gm T q0;replace q1:=Gm T q1;replace C:=Zd (C.out.below T);have a3:=Gn a1 T;clear a1 T;replace q5:=Zd q5;by_cases a2:nv=n
 case neg =>
  have t1:((nv:Int) == (n:Int))=false:=by simp;omega
  have e4:decide ((nv:Int)=(n:Int))=false:=Gu Gk;have d8:decide (nv=n)=false:=Gu a2;have be:=Zd (Zky (es:=es) h0.out (λhh=>a2 (by rw[<- c0.out,<- a0.out];exact hh.1)));replace a2:=Zd a2;go_wp2_with fail;(try rw[Y]);(try rw[a7]);clear a7;replace Y:=Zd Y;refine(Zax 8 V3).mono ?_;rintro e w6 ⟨rfl,rfl⟩;go_wp2_with fail;refine leaves_cons (f:=39) (args:=#[.pointer (some ⟨w.heap.size+1,0,none⟩)]) Gh Gd ?_;have e0:=(q1.out).cell 0;simp at e0;refine(Za4 ⟨w.heap.size+1,0,none⟩ 8 0 _ e0 ((q1.out).frozen 0)).mono ?_;rintro e u' w'' ⟨rfl,rfl,hw⟩;obtain⟨V,hV,bl,-,-,hk,sV⟩:=Zq 117 #[.int .i64 8] (a3.out) ((a3.out).size);exact EJ
 subst a2;have t1:((nv:Int) == (nv:Int))=true:=Gh;obtain⟨b,hb⟩:=Gz (Zc2 es);have c9:=Zd (λW1 (hx:FXL W1 V nv cv es)=>Zlo V nv cv es W1 hx b hb);replace hb:=Zd hb;go_wp2_with fail;(try rw[Y]);(try rw[a7]);clear a7;replace Y:=Zd Y;refine(c9.out V3 C.out).mono ?_;rintro e w8 ⟨rfl,J⟩;replace o:=Zd (o.out.below J);replace u:=Zd (u.out.below J);replace q0:=Gm J q0;replace q1:=Gm J q1;replace C:=Zd (C.out.below J);replace q5:=Gm J q5;have a4:=Gn a3 J;clear a3 J;cases b with
 | false =>
  have be:=Zd (Zky (es:=es) h0.out (λhh=>by rw[hb.out]at hh;exact absurd hh.2 Gj));go_wp2_with fail;refine(Zax 8 w8).mono ?_;rintro e w6 ⟨rfl,rfl⟩;go_wp2_with fail;refine leaves_cons (f:=39) (args:=#[.pointer (some ⟨w.heap.size+1,0,none⟩)]) Gh Gd ?_;have e0:=(q1.out).cell 0;simp at e0;refine(Za4 ⟨w.heap.size+1,0,none⟩ 8 0 _ e0 ((q1.out).frozen 0)).mono ?_;rintro e u' w'' ⟨rfl,rfl,hw⟩;obtain⟨V,hV,bl,-,-,hk,sV⟩:=Zq 117 #[.int .i64 8] (a4.out) ((a4.out).size);exact EJ
 | true =>
  have be:=Zd (Zrw (es:=es) h0.out ⟨by rw[c0.out,a0.out],hb.out⟩);have d7:=Zd (hS.out be.out);have a5:=Zd (C.out.fl (Zn9 hb.out));clear hS C;go_wp2_with fail;refine(Zb4 8 w8).mono ?_;rintro e w6 ⟨rfl,rfl⟩;have c3:=q5.out.cell 0;have b4:=q5.out.cell 1;simp at c3 b4;have d6:Hid (Zst (Zj (qM rs)) nv (λi:Nat=>(es.map FX.q)[i]?.getD 0)):=Zd (by have h9:=d7.out;rw[a0.out]at h9;exact h9);go_wp2_with fail;clear c3 b4;refine(Zzs A1 A2 V nv c1 c2 cv (Zj (qM rs)) (es.map FX.q) w6 c7 o.out u.out a5.out hp.out d6.out).mono ?_;rintro e e6 ⟨I,dn,dA,dk,dc,dm,dB,dj,dd,rfl,df⟩;replace o:=Zd (o.out.below I);replace u:=Zd (u.out.below I);replace q0:=Gm I q0;replace q1:=Gm I q1;replace q5:=Gm I q5;replace a5:=Zd (a5.out.below I);have b6:=Gn a4 I;clear a4 I;replace df:=Zd df;obtain⟨x0,x1,x2,x3,f0,f1,f2,f3⟩:=q0.out.four;obtain⟨W5,c6,c8,q5,kW,kB,s5⟩:=Z5 dn dA dk dc dm dB dj dd b6.out (Qa _) q0.out;have b0:=kB _ _ _ Gk q1.out
  have a8:Hid (Fr W5 dn dA dk dc dm dB dj dd (Zpf rs es)):=Zd (by
   have h9:Fr W5 dn dA dk dc dm dB dj dd (bil (Zj (qM rs)) nv (Zra es) (Zra es)):=⟨kW _ _ _ _ _ df.out.1,kW _ _ _ _ _ df.out.2⟩;unfold Zpf;rw[a0.out];exact h9)
  have e0:=b0.cell 0;have z0:=b0.frozen 0;simp at e0;obtain⟨U,hU,bP,q3,b1,b5,-⟩:=Zak 0 c8 (Nat.le_succ _) b0;have r4:=q3.cell 0;simp at r4;obtain⟨y0,y1,y2,y3,-⟩:=(b5 _ _ _ Gk q5).four;have d5:Hid (Fr U dn dA dk dc dm dB dj dd (Zpf rs es)):=Zd ⟨b1 _ _ _ _ _ a8.out.1,b1 _ _ _ _ _ a8.out.2⟩;clear kW kB s5 b1 b5 df a8 a5 o u;have e3:=Zvu dn dA dk dc dm dB dj dd;go_wp2_with fail;(try rw[c6]);(try rw[hU]);refine leaves_cons (f:=39) (args:=#[.pointer (some ⟨w.heap.size+1,0,none⟩)]) Gh Gd ?_;refine(Zeu _ _).mono ?_;rintro e u' w'' ⟨rfl,rfl,rfl⟩;exact⟨.tuple #[.agg #[.bool dn,.slice dA dk dc,.bool dm,.slice dB dj dd],.int .i64 0],by simp[results,Tryz.results25,go_sem,r4,y0,y1,y2,y3],bP,.inl ⟨be.out,_,_,_,_,_,_,_,_,rfl,d5.out⟩⟩
def LeN(k:Nat)(q:Rat):Prop:=q.num.natAbs<=pw k/\q.den<=pw k
def Zm5(A:Nat->Nat->Rat)(x:Nat->Rat)(n:Nat):List (List Rat):=(Qo (n+1)).map λi=>(Qo (n+1)).map λk=>brd A x n i k
section
variable{A:Nat->Nat->Rat}{x:Nat->Rat}{n k:Nat}
theorem Zsg:(Zm5 A x n).length=n+1:=by simp[Zm5]
theorem Zte{i:Nat}(hi:i<n+1):((Zm5 A x n)[i]?.getD []).length=n+1:=by
 unfold Zm5;rw[Qj,Ql hi];simp
theorem Zwo{i j:Nat}(hi:i<n+1)(hj:j<n+1):Zj (Zm5 A x n) i j=brd A x n i j:=by
 unfold Zj Zm5;exact Fd
theorem brdR_sm(hA:∀ i j,i<n->j<n->LeN k (A i j))(hx:∀ i,i<n->LeN k (x i)):SmE k (Zm5 A x n):=λi j=>by
 have h0:LeN k 0:=⟨Qp _,Zby _⟩;by_cases hi:i<n+1
 ·by_cases hj:j<n+1
  ·rw[Zwo hi hj]
   unfold brd;by_cases h1:i<n
   ·rw[Gx h1]
    by_cases h2:j<n;rw[Gx h2];exact hA i j h1 h2;rw[Gw h2];exact hx i h1
   rw[Gw h1];by_cases h2:j<n;rw[Gx h2];exact hx j h2;rw[Gw h2];exact h0
  unfold Zj;rw[Qd (by rw[Zte hi];omega)];exact h0
 unfold Zj;rw[Qd (l:=Zm5 A x n) (by rw[Zsg];omega)];exact h0
theorem Zms{t i j:Nat}(ht:t<=n+1)(hi:i<n+1)(hj:j<n+1):Zu (Zj (Zm5 A x n)) t i j=Zu (brd A x n) t i j:=
 Zcu (n:=n+1) (m:=n+1) (λ_ _ hi hk=>Zwo hi hk) (Qa _) t i j ht hi hj
theorem Z1v(hp:posP A n){t:Nat}(ht:t<=n):posP (Zj (Zm5 A x n)) t:=λs hs=>by
 have e:dQ (Zj (Zm5 A x n)) s=dQ (brd A x n) s:=Zms Gk Gk Gk;rw[e,brd_d x Gk];exact hp s Gk
theorem Z0c(hn:n<=6)(hA:∀ i j,i<n->j<n->LeN 7 (A i j))(hx:∀ i,i<n->LeN 7 (x i))(hp:posP A n){t i:Nat}(ht:t<=n)(hi:i<n+1):SmN 400 449 (Zu (brd A x n) t i n):=by
 have h:=(brdR_sm hA hx).red2 Zsg Gk (λi hi=>Zte hi) (t:=t) Gk Gk (Z1v hp ht) hi n;rw[Zms Gk hi Gk]at h;have h1:(7*(n+1)+7+1)*(n+1)<=399:=Qn (Nat.mul_le_mul (show 7*(n+1)+7+1<=57 by omega) (show n+1<=7 by omega)) Gj;exact h.mono Gk Gk
theorem Zu1(hn:n<=6)(hF:FacP A n)(hA:∀ i j,i<n->j<n->LeN 7 (A i j))(hx:∀ i,i<n->LeN 7 (x i))(hp:posP A n):Zst A n x:=by
 have hs:=λt i ht hi=>Z0c (t:=t) (i:=i) hn hA hx hp ht hi
 have f:∀ t,t<=n->Za7 t (λs=>zV A n x s*zV A n x s/dQ A s)=- Zu (brd A x n) t n n:=λt ht=>by
  have h:=Zwz hF.sym x t ht;rw[h];rw[Zam (g:=λs=>Zu (brd A x n) s s n*Zu (brd A x n) s s n/dQ (brd A x n) s) (λs hs=>by rw[brd_d x Gk];rfl)]
  grind
 have o:∀ t,t<=n->SmN 400 449 (- Zu (brd A x n) t n n):=λt ht=>by
  have h:=hs t n ht Gk;exact⟨by rw[Rat.neg_num,Int.natAbs_neg];exact h.1,by rw[Rat.neg_den];exact h.2⟩
 refine⟨λt i hti hi=>(hs t i Gk Gk).sm Gj Gj,λi t hti hi=>(hF.l i t Gk hi (hp.mono Gk)).sm Gj Gj,λi t hti hi=>?_,λi hi=>((hs i i Gk Gk).mulN (hs i i Gk Gk)).sm Gj Gj,λi hi=>(hF.d hi (hp.mono Gk)).sm Gj Gj,λi hi=>?_,λi hi=>?_⟩
 ·have h:=Zpb (A:=A) (x:=x) hti hi
  have e:lQ A i t*Zu (brd A x n) t t n=Zu (brd A x n) t i n-Zu (brd A x n) (t+1) i n:=by
   rw[h];show lQ A i t*zV A n x t=_
   grind
  rw[e];exact((hs t i Gk Gk).sub (hs (t+1) i Gk Gk)).sm Gj Gj
 ·have h1:=f i Gk
  have h2:=f (i+1) Gk;have h3:Za7 (i+1) (λs=>zV A n x s*zV A n x s/dQ A s)=Za7 i (λs=>zV A n x s*zV A n x s/dQ A s)+zV A n x i*zV A n x i/dQ A i:=rfl
  have e:zV A n x i*zV A n x i/dQ A i=- Zu (brd A x n) (i+1) n n - - Zu (brd A x n) i n n:=by
   rw[<- h1,<- h2,h3];grind
  rw[e];exact((o (i+1) Gk).sub (o i Gk)).sm Gj Gj
 rw[f i hi];exact(o i hi).sm Gj Gj
end
section
variable{R:List (List Rat)}{n k:Nat}
end
def calmC(r:RX):Prop:=∀ e ∈ r.es,e.few<=4 \/ 64<e.few
def calmX(rs:List RX):Prop:=(rs.length<=4 \/ 6<rs.length)/\rs.length<=10/\Zkm 4 rs
theorem FS{G:Prop}(h:G:=by
 go_wp2_with fail;go_ret;exact⟨_,rfl,hB,λhf=>absurd hf Gj⟩):G:=h
theorem Cd{G:Prop}(h:G:=by
 have jH:decide ((70:Int)<(f:Int))=false:=Gu Gk
 have fP:Hid (∀ a e,a<j+1->es[a]?=some e->e.few<=4 \/ 64<e.few):=Zd (λa x ha hx=>by
  by_cases he:a=j
  ·subst he
   rw[fQ.out]at hx;cases hx;rw[jr.out];omega
  exact iu.out a x Gk hx)
 go_wp2_with fail
 go_roundg (rn-(j+1))
 case measure=>omega
 case rel=>exact⟨j+1,by omega,by go_num,fP,aJ⟩):G:=h
theorem Ew{G:Prop}(h:G:=by
 have fC:decide ((10:Int)<(rn:Int))=false:=Gu Gk;go_wp2_with fail
 go_loopg [4] rn (λk iv wr=>∃ j:Nat,j+k=rn/\iv=.int .i64 j/\Hid (∀ a e,a<j->es[a]?=some e->e.few<=4 \/ 64<e.few)/\Below w0.heap.size w0 wr)
 case atStart=>exact⟨0,by omega,rfl,Zd (λa e ha=>by omega),Below.refl _ _⟩
 case round =>
  obtain⟨wx,rfl⟩:=Gy wr;obtain⟨j,fS,rfl,iu,av⟩:=hrel;have k1:=Zc av k0;have fJ:=Zd (Gs hB av);cases gk with
  | zero =>
   obtain rfl:rn=j:=Gk;have t3:decide ((rn:Int)<(rn:Int))=false:=Gh
   have jo:Hid (∀ a x,a<i+1->rs[a]?=some x->calmC x):=Zd (λa x ha hx=>by
    by_cases he:a=i
    ·subst he
     rw[hr.out]at hx;cases hx;intro e he;obtain⟨t,ht,jB⟩:=List.getElem_of_mem he;exact iu.out t e (by rw[jq.out]at ht;exact ht) (by rw[List.getElem?_eq_getElem ht,jB])
    exact hc.out a x Gk hx)
   go_wp2_with fail
   go_roundg (n-(i+1))
   case measure=>omega
   case rel=>exact⟨i+1,by omega,by omega,by go_num,jo,fJ.out⟩
  | succ fH =>
   obtain rfl:fH=rn-(j+1):=Gk;have jt:j<rn:=Gk;have t3:decide ((j:Int)<(rn:Int))=true:=Gv Gk;have bj:(j:Int)<(rn:Int):=Gk;obtain⟨g2,o2,e,fI,fQ,⟨c0,c1,c2,c3⟩,aS,aG⟩:=(eI.out.below av).at_ jt;rw[fI]at k1;replace fI:=Zd fI;have fT:=Nat.le_trans aS.2.1 aS.2.2.1;have eD:=Nat.le_trans aG.2.1 aG.2.2.1;have il:=Zd (λW1=>Zp1 e.na e.nb e.A e.B e.n e.c e.m e.d W1 fT eD);obtain⟨f,hf⟩:=Gz (max e.n e.m);have jS:f<=9223372036854775807:=by unfold maxLen at fT eD;omega
   rw[hf]at il;have jr:Hid (e.few=f):=Zd hf;replace fQ:=Zd fQ;replace hf:=Zd hf;clear aS aG fT eD;go_wp2_with fail;refine(il.out _).mono ?_;rintro e2 w5 ⟨rfl,ao⟩;have aJ:=Gs av ao;have aM:=Gn fJ ao;clear c0 c1 c2 c3 k1;by_cases f4:4<f
   ·have x4:decide ((4:Int)<(f:Int))=true:=Gv Gk
    by_cases f64:f<=64
    ·have jG:decide ((f:Int)<=64)=true:=Gv Gk
     go_wp2_with fail;go_ret;exact⟨_,rfl,aM.out,λhf=>absurd hf Gj⟩
    have jG:decide ((f:Int)<=64)=false:=Gu Gk;by_cases f70:70<f
    ·have jH:decide ((70:Int)<(f:Int))=true:=Gv Gk
     go_wp2_with fail;go_ret;exact⟨_,rfl,aM.out,λhf=>absurd hf Gj⟩
    exact Cd
   have x4:decide ((4:Int)<(f:Int))=false:=Gu Gk;exact Cd):G:=h
theorem Zp8(A:Option Addr)(n c:Nat)(rs:List RX)(w:World)(h:MXL w A n c rs) :
    Calls Tryz.prog 23 #[.slice A n c] w λe w'=>∃ b,e=.returned (.bool b)/\Below w.heap.size w w'/\(b=false->calmX rs):=by
 have hl:=h.1;have U:=h.2.1;have C:=h.2.2.1;unfold maxLen at C;replace h:=Zd h;replace hl:=Zd hl;go_in;go_wp2_with fail
 go_loopg [3] n (λk iv wr=>∃ i:Nat,i+k=n/\i<=10/\iv=.int .i64 i/\Hid (∀ a r,a<i->rs[a]?=some r->calmC r)/\Below w.heap.size w wr)
 case atStart=>exact⟨0,by omega,by omega,rfl,Zd (λa r ha=>by omega),Qc _ _⟩
 case round =>
  obtain⟨w0,rfl⟩:=Gy wr;obtain⟨i,T,O,rfl,hc,hB⟩:=hrel;by_cases hin:i<n
  case neg =>
   have t1:decide ((i:Int)<(n:Int))=false:=Gu Gk;have u:n<=10:=Gk
   have y:Hid (Zkm 4 rs):=Zd (λr hr=>by
    obtain⟨a,ha,e⟩:=Qm hr;exact hc.out a r (by rw[hl.out]at ha;omega) (by rw[Qf ha,e]))
   by_cases h4:4<n
   ·have υ4:decide ((4:Int)<(n:Int))=true:=Gv Gk
    by_cases h6:n<=6
    ·have υ6:decide ((n:Int)<=6)=true:=Gv Gk
     exact FS
    have υ6:decide ((n:Int)<=6)=false:=Gu Gk;have fC:decide ((10:Int)<(n:Int))=false:=Gu Gk;go_wp2_with fail;go_ret;exact⟨_,rfl,hB,λ_=>⟨.inr (by rw[hl.out];omega),by rw[hl.out];exact u,y.out⟩⟩
   have υ4:decide ((4:Int)<(n:Int))=false:=Gu Gk;have fC:decide ((10:Int)<(n:Int))=false:=Gu Gk;go_wp2_with fail;go_ret;exact⟨_,rfl,hB,λ_=>⟨.inl (by rw[hl.out];omega),by rw[hl.out];exact u,y.out⟩⟩
  have t1:decide ((i:Int)<(n:Int))=true:=Gv Gk;by_cases hi10':i<10
  case neg =>
   have t2:decide ((i:Int)<10)=false:=Gu Gk;have I:decide (i<10)=false:=Gu Gk;have υ4:decide ((4:Int)<(n:Int))=true:=Gv Gk;have υ6:decide ((n:Int)<=6)=false:=Gu Gk;have fC:decide ((10:Int)<(n:Int))=true:=Gv Gk;exact FS
  have t2:decide ((i:Int)<10)=true:=Gv Gk;have I:decide (i<10)=true:=Gv Gk;obtain⟨fH,rfl⟩:∃ j,gk=j+1:=⟨gk-1,by omega⟩;obtain rfl:fH=n-(i+1):=Gk;have bi:(i:Int)<(n:Int):=Gk;obtain⟨g,o,⟨rA,rn,rc,es⟩,rfl,hr,k0,hF⟩:=(h.out.below hB).at_ hin;simp only at k0 hF;have J:=Qn hF.2.1 hF.2.2.1;unfold maxLen at J;have jq:Hid (es.length=rn):=Zd hF.1;have eI:=Zd hF;replace hr:=Zd hr;clear hF;by_cases h4:4<rn
  ·have υ4:decide ((4:Int)<(rn:Int))=true:=Gv Gk
   by_cases h6:rn<=6
   ·have υ6:decide ((rn:Int)<=6)=true:=Gv Gk
    exact FS
   have υ6:decide ((rn:Int)<=6)=false:=Gu Gk;by_cases h10:10<rn
   ·have fC:decide ((10:Int)<(rn:Int))=true:=Gv Gk
    exact FS
   exact Ew
  have υ4:decide ((4:Int)<(rn:Int))=false:=Gu Gk;exact Ew
section
variable{Q:List (List Rat)}{xs:List Rat}{n:Nat}
theorem LeN.mono{i j:Nat}{q:Rat}(h:LeN i q)(hij:i<=j):LeN j q:=⟨Qn h.1 (Zca hij),Qn h.2 (Zca hij)⟩
end
theorem Z1w{A V:Option Addr}{n c nv cv:Nat}{rs:List RX}{es:List FX}{w:World}(h:MXL w A n c rs)(hv:FXL w V nv cv es)(hf:Zkm 4 rs)(hn4:n<=4)(hx:∀ e ∈ es,e.few<=4 \/ 64<e.few)(h0:Zh5 rs es=0):Zst (Zj (qM rs)) rs.length (Zra es):=by
 have hE:Za9 rs=0:=by
  by_cases e:Za9 rs=0;exact e;rw[Zpn rfl e]at h0;exact absurd h0 e
 have hb:es.length=rs.length/\Zc2 es=true:=by
  by_cases e:es.length=rs.length/\Zc2 es=true;exact e;rw[Zky hE e]at h0;exact absurd h0 Gj
 obtain⟨y,O,I⟩:=Zhp hE;have C:rs.length=n:=h.1;have T:0<n:=by rw[<- C];exact y.facts.1
 have J:=y.small h hf;have hF:=y.fac h O hf (k:=4) (by rcases(show n=1 \/ n=2 \/ n=3 \/ n=4 by omega)with rfl|rfl|rfl|rfl <;> decide);rw[C]at I ⊢;refine Zu1 Gk hF (λi j _ _=>LeN.mono (J i j) Gj) (λi _=>?_) I;unfold Zra;rw[Qj];cases e:es[i]? with
 | none=>exact⟨Qp _,Zby _⟩
 | some f =>
  have o:=Qi e;have u:f.fine64=true:=List.all_eq_true.1 hb.2 f o;unfold FX.fine64 at u;rw[Bool.and_eq_true,decide_eq_true_eq]at u
  have h4:f.few<=4:=by
   rcases hx f o with h|h;exact h;omega
  exact LeN.mono (Zr1 (hv.2.2.2.1 f o) u.2 h4) Gj
theorem Zv2{A:Option Addr}{n c:Nat}{rs:List RX}{w:World}(h:MXL w A n c rs)(hf:Zkm 4 rs)(h0:Za9 rs=0):∀ a b,SmN 5 5 (Zj (qM rs) a b):=λa b=>by
 have h4:=(Zhp h0).1.small h hf a b;exact⟨QB h4.1 (Zdm Gj),QB h4.2 (Zdm Gj)⟩
