/- Reference of covar: solve. Reference of covar: zeros, -/
import Derived.Deep.LoopGhost
import Derived.Test.YthappeninglakaaGreatZt20
set_option maxRecDepth 100000
set_option maxHeartbeats 16000000
set_option linter.unusedSimpArgs false
set_option linter.unusedVariables false
namespace Go.Proofs.YthappeninglakaaGreat
open Go.RowKit
open List renaming replicate→Qa,getElem?_eq_getElem→Qe,getElem?_eq_none→Qf,length_map→Qg,getElem?_set→Qi,getElem?_take→Qj,getElem?_map→Qk,mem_of_getElem?→Ql,mem_of_mem_take→Qm,length_take→Qp,getElem?_range→Qq,any_eq_false→Qs,map_cons→Qt,map_nil→Qx,getElem_of_mem→Qy,mem_singleton→Qz,range→QA,length_set→QB,nil_append→QC,take_of_length_le→QF,length_append→QG,ext_getElem?→QJ,take_add_one→QK,all_eq_true→QL
open Nat renaming le_refl→Qb,lt_or_ge→Qh,le_trans→Qn,zero_add→Qv,zero_le→QE,lt_of_le_of_lt→QI
open Below renaming refl→Qc
open Act renaming put→Qd
open Rat renaming mul_nonneg→Qo,mul_comm→QH,intCast_mul→QM
open Blk renaming new→Qr
open Option renaming getD_some→Qu,map_some→Qw
open Kept renaming refl→QD
attribute [local go_sem] Zg
theorem Zyo{w:World}{t:TypeId}{g:Nat}{A:Option Addr}{n c:Nat}(h:Blk w g t #[.slice A n c]):Reads w (g+1) 1 (some ⟨g,0,none⟩) 1 (Zan [⟨A,n,c⟩]):=
 ⟨rfl,λ_=>⟨_,rfl,Nat.lt_succ_self _,λj u hu=>by
  rw[Zg,Qv,h.cell];simpa [Zan]using hu⟩⟩
def Zcp(Q:List (List Rat))(xs:List Rat)(n:Nat):List (List Rat):=(QA n).map λi=>Q[i]?.getD [] ++ [xs[i]?.getD 0]
section
variable{Q:List (List Rat)}{xs:List Rat}{n:Nat}
theorem Zla:(Zcp Q xs n).length=n:=by simp[Zcp]
theorem Zm4{i:Nat}(h:i<n):(Zcp Q xs n)[i]?.getD []=Q[i]?.getD [] ++ [xs[i]?.getD 0]:=by simp[Zcp,h]
theorem Zyj{i:Nat}(h:i<n):(Zcp Q xs n)[i]?=some (Q[i]?.getD [] ++ [xs[i]?.getD 0]):=by simp[Zcp,h]
theorem Zpd(hm:∀ i,i<n->(Q[i]?.getD []).length=n){i:Nat}(h:i<n):((Zcp Q xs n)[i]?.getD []).length=n+1:=by rw[Zm4 h,QG,hm i h];rfl
theorem Zy4(hm:∀ i,i<n->(Q[i]?.getD []).length=n){i k:Nat}(h:i<n)(hk:k<n):Zi (Zcp Q xs n) i k=Zi Q i k:=by
 unfold Zi;rw[Zm4 h,List.getElem?_append_left (by rw[hm i h];exact hk)]
theorem Zuq(hm:∀ i,i<n->(Q[i]?.getD []).length=n){i:Nat}(h:i<n):Zi (Zcp Q xs n) i n=xs[i]?.getD 0:=by
 unfold Zi;rw[Zm4 h,List.getElem?_append_right (by rw[hm i h];exact Qb _),hm i h,Nat.sub_self];rfl
theorem Zvk(hm:∀ i,i<n->(Q[i]?.getD []).length=n){i k:Nat}(h:i<n)(hk:n<k):Zi (Zcp Q xs n) i k=0:=by
 unfold Zi;rw[Qf (by rw[Zpd hm h];omega)];rfl
end
section
variable{R:List (List Rat)}{n m:Nat}
theorem Zsp(hrow:∀ i,i<R.length->(R[i]?.getD []).length=m){r c i j:Nat}(hi:i<R.length)(hr:r<R.length)(hj:c<=j) :
    Zi (Zbt R r c) i j=if i<=r then Zi R i j else Zi R i j-Zi R i c/Zi R r c*Zi R r j:=by
 unfold Zbt;show ((List.map _ (QA R.length))[i]?.getD [])[j]?.getD 0=_;rw[Qk,Qq hi];simp only[Qw,Qu];by_cases h1:i<=r;rw[Gx h1,Gx h1];rfl;rw[Gw h1,Gw h1];unfold Zn5;rw[Qk];by_cases hjl:j<(R[i]?.getD []).length
 ·rw[Qq hjl]
  simp only[Qw,Qu];rw[Gw Gk];rfl
 rw[Qf (l:=QA _) (by simpa using hjl)];simp only[Option.map_none,Option.getD_none];have e1:Zi R i j=0:=by unfold Zi;rw[Qf Gk];rfl
 have e2:Zi R r j=0:=by unfold Zi;rw[Qf (by rw[hrow i hi]at hjl;rw[hrow r hr];omega)];rfl
 rw[e1,e2];grind
theorem Zrj(hrow:∀ i,i<R.length->(R[i]?.getD []).length=m){r c i:Nat}(hi:i<R.length):((Zbt R r c)[i]?.getD []).length=m:=by
 rw[Zjf hi]
 split
 exact hrow i hi;unfold Zn5;rw[Qg,List.length_range];exact hrow i hi
theorem Zkx(hrow:∀ i,i<R.length->(R[i]?.getD []).length=m):∀ t i,i<R.length->((Zfs R t)[i]?.getD []).length=m
 | 0,i,hi=>hrow i hi
 | t+1,i,hi=>Zrj (R:=Zfs R t) (λi hi=>Zkx hrow t i (by rw[Zhu]at hi;exact hi)) (by rw[Zhu];exact hi)
theorem Ze0(hl:R.length=n)(hrow:∀ i,i<R.length->(R[i]?.getD []).length=m):∀ t,t<=n->∀ i k,i<n->min t i<=k->Zi (Zfs R t) i k=Zr (Zi R) t i k
 | 0,_,_,_,_,_=>rfl
 | t+1,ht,i,k,hi,hk=>by
  show Zi (Zbt (Zfs R t) t t) i k=if t<i then _ else _
  have hL:(Zfs R t).length=n:=by rw[Zhu,hl]
  have hR:∀ i,i<(Zfs R t).length->((Zfs R t)[i]?.getD []).length=m:=λi hi=>Zkx hrow t i (by rw[Zhu]at hi;exact hi);by_cases hti:t<i
  ·have e:t+1<=k:=Gk
   rw[Gx hti,Zsp hR (by rw[hL];exact hi) (by rw[hL];omega) Gk,Gw Gk,
    Ze0 hl hrow t Gk i k hi Gk,Ze0 hl hrow t Gk i t hi Gk,Ze0 hl hrow t Gk t t Gk Gk,Ze0 hl hrow t Gk t k Gk Gk]
  rw[Gw hti];have f:i<=k:=Gk
  have:Zi (Zbt (Zfs R t) t t) i k=Zi (Zfs R t) i k:=by
   unfold Zi;rw[Zjf (by rw[hL];exact hi),Gx Gk]
  rw[this];exact Ze0 hl hrow t Gk i k hi Gk
end
def SolvC(E X:Nat->Nat->Rat)(n:Nat):Prop:=
 (∀ i,i<n->X i n=upS E X i n n/E i i)/\(∀ i,SmN 300 300 (X i n))/\∀ i t,SmN 400 400 (upS E X i n t)
def Zms(B0:Nat)(q:Rat)(ca al:Nat)(i:Nat)(v:Value)(w:World):Prop:=
 if i=ca then ∃ na A n c nb B m d,v=.agg #[.bool na,.slice A n c,.bool nb,.slice B m d]/\Fr w na A n c nb B m d q
 else if i=al then ∃ g,v=.pointer (some ⟨g,0,none⟩)/\B0<=g/\Blk w g 41 #[.bool false,.slice none 0 0,.bool false,.slice none 0 0]
 else True
theorem Ztn{B0:Nat}{q:Rat}{ca al i:Nat}{v:Value}{w w':World}(hb:Below w.heap.size w w')(h:Zms B0 q ca al i v w):Zms B0 q ca al i v w':=by
 unfold Zms at h ⊢
 split at h
 ·rename_i h1;rw[Gx h1]
  exact Fc
 rename_i h1;rw[Gw h1]
 split at h
 ·rename_i h4;rw[Gx h4]
  obtain⟨g,e,h5,h6⟩:=h;exact⟨g,e,h5,Zc hb h6⟩
 rename_i h4;rw[Gw h4];trivial
def FTail(t:TypeId)(w:World)(g n i:Nat)(x:Nat->Rat):Prop:=∃ es:List FE,Blk w g t (Z0 es)/\es.length=n/\∀ (j:Nat) (e:FE),i<=j->es[j]?=some e->e.in_ w/\e.q=x j
section
variable{t:TypeId}{w w':World}{g n i:Nat}{x:Nat->Rat}
theorem FTail.new(t:TypeId)(w:World)(n:Nat)(x:Nat->Rat):FTail t (w.alloc (.cells (Z0 (Qa n Zau)) t)) w.heap.size n n x:=
 ⟨_,Qr _ _ _,by simp,λj e h1 h2=>by rw[Qf (by simp;exact h1)]at h2;cases h2⟩
theorem FTail.below(h:FTail t w g n i x)(hb:Below w.heap.size w w'):FTail t w' g n i x:=by
 obtain⟨es,h1,h2,h3⟩:=h;exact⟨es,Zc hb h1,h2,λj e hj he=>⟨(h3 j e hj he).1.below hb,(h3 j e hj he).2⟩⟩
theorem FTail.at_(h:FTail t w g n i x){j:Nat}(hij:i<=j)(hj:j<n):∃ na A k c nb B m d,w.cell? ⟨g,j*4,none⟩=some (.bool na)/\w.cell? ⟨g,j*4+1,none⟩=some (.slice A k c)/\w.cell? ⟨g,j*4+2,none⟩=some (.bool nb)/\w.cell? ⟨g,j*4+3,none⟩=some (.slice B m d)/\Fr w na A k c nb B m d (x j):=by
 obtain⟨es,h1,h2,h3⟩:=h;have he:=Qe (l:=es) (i:=j) Gk;have hc:=Zd2 he;obtain⟨h4,h5⟩:=h3 j _ hij he;unfold FE.in_ at h4;rw[h5]at h4;exact⟨_,_,_,_,_,_,_,_,by rw[h1.cell];exact hc.1,by rw[h1.cell];exact hc.2.1,by rw[h1.cell];exact hc.2.2.1,by rw[h1.cell];exact hc.2.2.2,h4⟩
theorem FTail.raw(h:FTail t w g n i x):FRaw t w g n:=by obtain⟨es,h1,h2,-⟩:=h;exact⟨es,h1,by omega⟩
theorem FTail.set_(h:FTail t w g n (i+1) x)(hi:i<n){na:Bool}{A:Option Addr}{k c:Nat}{nb:Bool}{B:Option Addr}{m d:Nat}(hf:Fr w na A k c nb B m d (x i)):FTail t (Zgb w g i na A k c nb B m d) g n i x:=by
 obtain⟨es,h1,h2,h3⟩:=h;have hb:=(((h1.set_ (i*4) (.bool na)).set_ (i*4+1) (.slice A k c)).set_ (i*4+2) (.bool nb)).set_ (i*4+3) (.slice B m d);have hs:=Zhl (es:=es) (i:=i) ⟨na,A,k,c,nb,B,m,d,x i⟩ Gk;dsimp only at hs;rw[hs]at hb;have f:=Zcb es;refine⟨_,hb,by rw[QB];exact h2,λj e hj he=>?_⟩;rw[Qi]at he;by_cases hij:i=j
 ·subst hij
  rw[Gx rfl,Gx Gk]at he;cases he;exact⟨Zij hf h1 f,rfl⟩
 rw[Gw hij]at he;have:=h3 j e Gk he;exact⟨Zij this.1 h1 f,this.2⟩
theorem FTail.fl(h:FTail t w g n 0 x)(hm:n<=maxLen):FL w (some ⟨g,0,none⟩) n n ((QA n).map x):=by
 obtain⟨es,h1,h2,h3⟩:=h;refine⟨es,h2,Qb _,hm,λe he=>?_,?_,λ_=>⟨g,0,rfl,λk e he=>?_⟩⟩
 ·obtain⟨j,hj,e2⟩:=Qy he
  exact(h3 j e (QE _) (by rw[Qe hj,e2])).1
 ·apply QJ
  intro j;rw[Qk,Qk];by_cases hj:j<n
  ·have he:=Qe (l:=es) (i:=j) Gk
   rw[he,Qq hj,Qw,Qw,(h3 j _ (QE _) he).2]
  rw[Qf Gk,Qf (by simpa using hj)];rfl
 have hc:=Zd2 he;exact⟨by rw[Qv,h1.cell];exact hc.1,by rw[Qv,h1.cell];exact hc.2.1,by rw[Qv,h1.cell];exact hc.2.2.1,by rw[Qv,h1.cell];exact hc.2.2.2⟩
end
theorem RowS.isSlC{t:TypeId}{w:World}{base:Nat}{v:Value}{rs:List RS}(h:RowS t w base v rs):∃ A n c,v=.slice A n c:=by
 exact Cn
def Zxr(A X:Nat->Nat->Rat)(n:Nat)(w:World)(e:Ending)(w':World):Prop:=
 Below w.heap.size w w'/\((posP A n/\∃ B c,e=.returned (.tuple #[.slice B n c,.bool true])/\FL w' B n c ((QA n).map λi=>X i n)) \/ (¬ posP A n/\e=.returned (.tuple #[.slice none 0 0,.bool false])))
theorem ID{G:Prop}(h:G:=by
 clear fp fa eZ bJ;go_wp2_with fail;go_returns;exact⟨ah.out,.inr ⟨ik.out,rfl⟩⟩):G:=h
theorem Zqr(A0:Option Addr)(n c:Nat)(Q:List (List Rat))(Ax:Option Addr)(cx:Nat)(xs:List Rat)(w:World)(h:MFL w A0 n c Q)(hv:FL w Ax n cx xs)(hn0:0<n)(hn9:n<=100)(hm:∀ i,i<n->(Q[i]?.getD []).length=n)
    (hs:∀ t i k,t<=n->posP (Zi (Zcp Q xs n)) t->i<n->SmN 380 380 (Zr (Zi (Zcp Q xs n)) t i k)) (hl:∀ i k,k<=i->i<n->posP (Zi (Zcp Q xs n)) (k+1)->SmN 300 300 (lQ (Zi (Zcp Q xs n)) i k))
    (X:Nat->Nat->Rat) (hX:posP (Zi (Zcp Q xs n)) n->SolvC (λi j=>Zr (Zi (Zcp Q xs n)) i i j) X n) :
    Calls Tryz.prog 57 #[.slice A0 n c,.slice Ax n cx] w (Zxr (Zi (Zcp Q xs n)) X n w):=by
 obtain⟨iF,hi,l4,j7,k3⟩:=info_parts Zfl;obtain⟨iS,ki,H0,K0,L5⟩:=info_parts Zkk;have hmx:=Gt;have C9:(35:TypeId)≠41:=Gj;have N2:=h.2.1;have K7:=h.2.2.1;unfold maxLen at K7;have y5:=hv.cap;unfold maxLen at y5;obtain⟨R,hR⟩:=Gz (Zcp Q xs n);have m0:Hid (R.length=n):=Za (by rw[<- hR];exact Zla);have j6:Hid (∀ i,i<R.length->(R[i]?.getD []).length=n+1):=Za (λi hi=>by rw[<- hR]at hi ⊢;exact Zpd hm (by rw[Zla]at hi;exact hi));have z4:Hid (∀ i,i<n->R[i]?=some (Q[i]?.getD [] ++ [xs[i]?.getD 0])):=Za (λi hi=>by rw[<- hR];exact Zyj hi);rw[hR]at hs hl hX ⊢;obtain⟨AR,l9⟩:=Gz (Zi R);rw[l9]at hs hl hX ⊢;replace l9:=Za l9;have hH:=Za h;have K5:=Za hv;replace hs:=Za hs;replace hl:=Za hl;replace hX:=Za hX;replace hm:=Za hm;clear h hv hR;go_in;go_wp2_with fail
 go_loopg [6,7] n (λk ov iv wr=>∃ (i:Nat) (L:List RF),i+k=n/\iv=.int .i64 i/\MatO 35 41 wr w.heap.size ov L/\Hid (L.map RF.q=R.take i)/\Below w.heap.size w wr)
 case atStart=>exact⟨0,[],by omega,rfl,MatO.nil _ _ _ _,Za Gh,Qc _ _⟩
 case round =>
  obtain⟨i,L,L4,rfl,hM,hQ,hB⟩:=hrel
  have f6:L.length=i:=by
   have h1:(L.map RF.q).length=(R.take i).length:=by rw[hQ.out]
   rw[Qg,Qp,m0.out]at h1;omega
  cases gk with
  | succ j =>
   obtain rfl:j=n-(i+1):=Gk;have u:i<n:=Gk;have t1:decide ((i:Int)<(n:Int))=true:=Gv Gk;have bi:(i:Int)<(n:Int):=Gk;obtain⟨g,o,A1,n1,c1,rfl,k0,hF⟩:=hH.out.at_ u;have H8:n=n1:=by rw[<- hF.len];exact(hm.out i u).symm
   subst H8;obtain⟨gy,oy,xn,xA,xk,xc,xm,xB,xj,xd,rfl,⟨x0,x1,x2,x3⟩,y9⟩:=K5.out.at_ u;have J7:Hid (∀ s ∈ L,s.g<wr.heap.size):=Za (λs hs=>(hM.2.1 s hs).1.1.lt);have e6:Hid ((Q[i]?.getD []).length=n):=Za (hm.out i u);obtain⟨O6,ovn,ovc,rfl⟩:=hM.1.isSlC;replace hM:=Za hM;replace hF:=Za hF;replace y9:=Za y9;have y0:=Zb hB k0;have y1:=Zb hB x0;have y2:=Zb hB x1;have y3:=Zb hB x2;have y4:=Zb hB x3;go_wp2_with fail;obtain⟨X0,T⟩:=Gz wr.drew;have f5:Below wr.heap.size wr X0:=by rw[<- T];exact Zf (Qc _ _) 1
   have a2:Hid (∀ wx,Below w.heap.size w wx->wx.cell? ⟨g,o+i,none⟩=some (.slice A1 n c1)/\wx.cell? ⟨gy,oy+i*4,none⟩=some (.bool xn)/\wx.cell? ⟨gy,oy+i*4+1,none⟩=some (.slice xA xk xc)/\wx.cell? ⟨gy,oy+i*4+2,none⟩=some (.bool xm)/\wx.cell? ⟨gy,oy+i*4+3,none⟩=some (.slice xB xj xd)):=Za (λwx f=>⟨Zb f k0,Zb f x0,Zb f x1,Zb f x2,Zb f x3⟩);have F1:Below w.heap.size w X0:=Gs hB f5;refine wp_heldS [] hmx a2 (by rw[T];exact F1) (λhxs=>?_);rw[T];clear y0 y1 y2 y3 y4;refine Zj5 9 [0,2,3,4,5,7,8,9,10] rfl Gi (a2.out _ F1) ?_
   iterate 9 (refine tkA ?_;try simp only[Qd,Zg7,Zgl,Zg1,Gr,Gq,Gp])
   refine tk0 ?_;refine Zdc (i:=1) (j:=11) rfl rfl Gi (λK hK=>?_) (λK hK=>?_)
   focus
    obtain⟨Y1,l8⟩:=Gz (X0.alloc (.cells #[] 41));obtain⟨e0,h5⟩:=Gz X0.heap.size;have E7:Below X0.heap.size X0 Y1:=by rw[<- l8];exact(Qc _ _).alloc (Qb _) _
    have D6:Blk Y1 e0 41 #[]:=by rw[<- l8,<- h5];exact Qr _ _ _
    have x4:wr.heap.size<=e0:=by rw[<- h5];exact f5.size
    have a3:=Gs f5 E7;have C2:Below w.heap.size w Y1:=Gs hB a3;have g8:OwnF 41 Y1 wr.heap.size (.slice (some ⟨e0,0,none⟩) 0 0) []:=⟨[],.inr ⟨e0,0,rfl,x4,QE _,D6⟩,λe he=>(by cases he),rfl⟩;go_simp;(try rw[l8]);(try rw[h5]);refine hK.out _ _ (λ_=>a2.out _ C2) ?_;clear hK K l8 h5
    try simp only[Qd,Zg7,Zgl,Zg1]
    refine Zdc (i:=6) (j:=11) rfl rfl Gi (λK hK=>?_) (λK hK=>?_)
    focus
     obtain⟨E9,B3,r6,υ5,w7⟩:=(hF.out.below (Gs hB a3)).reads;rw[Gx Ge];refine Zbq _ (.tmp 24) (.tmp 28) 35 rfl wr.heap.size 41 iF Tryz.underlying35 hi l4 j7 k3 (.slice (some ⟨e0,0,none⟩) 0 0) [] rfl g8 _ _ _ _ E9 rfl B3 r6 υ5 Gg a3.size ?_;intro L7 Y4 q7 E5 M8 M1;rw[QC,w7]at q7;have g9:=a3.grown E5 a3.size (λk hk=>g8.row_ge k hk);have z9:Below w.heap.size w Y4:=Gs hB g9;refine hK.out _ _ (λ_=>a2.out _ z9) ?_;clear hK K
     try simp only[Qd,Zg7,Zgl,Zg1]
     refine wpAnyL_o 11 λK hK=>?_;obtain⟨Y5,n0⟩:=Gz (Y4.alloc (.cells #[.bool xn,.slice xA xk xc,.bool xm,.slice xB xj xd] 41));obtain⟨r9,g7⟩:=Gz Y4.heap.size;have r1:Below Y4.heap.size Y4 Y5:=by rw[<- n0];exact(Qc _ _).alloc (Qb _) _
     have C0:Blk Y5 r9 41 #[.bool xn,.slice xA xk xc,.bool xm,.slice xB xj xd]:=by rw[<- n0,<- g7];exact Qr _ _ _
     have L0:wr.heap.size<=r9:=by rw[<- g7];exact g9.size
     have r3:=Gs g9 r1;have z7:Below w.heap.size w Y5:=Gs hB r3;have m3:=q7.kept r1;go_simp;(try rw[n0]);(try rw[g7]);refine hK.out _ _ (λ_=>a2.out _ z7) ?_;clear hK K n0 g7
     try simp only[Qd,Zg7,Zgl,Zg1]
     have rL:=r3;have oL:=m3;have bL:=C0;obtain⟨vL,rfl⟩:∃ x:Value,x=L7:=⟨_,rfl⟩;obtain⟨gL,rfl⟩:∃ x:Nat,x=r9:=⟨_,rfl⟩;obtain⟨WL,rfl⟩:=Gy Y5
    rotate_left 1
    focus
     obtain⟨Y8,m6⟩:=Gz (Y1.alloc (.cells #[.bool xn,.slice xA xk xc,.bool xm,.slice xB xj xd] 41));obtain⟨i3,d8⟩:=Gz Y1.heap.size;have q8:Below Y1.heap.size Y1 Y8:=by rw[<- m6];exact(Qc _ _).alloc (Qb _) _
     have k6:Blk Y8 i3 41 #[.bool xn,.slice xA xk xc,.bool xm,.slice xB xj xd]:=by rw[<- m6,<- d8];exact Qr _ _ _
     have J3:wr.heap.size<=i3:=by rw[<- d8];exact a3.size
     have d7:=Gs a3 q8;have E1:Below w.heap.size w Y8:=Gs hB d7;have x9:Hid (e0<i3):=Za (by rw[<- d8];have h9:=g8.blt e0 (by simp[Value.ownBlock]);exact h9);have h6:=g8.kept q8;go_simp;(try rw[m6]);(try rw[d8]);refine hK.out _ _ (λ_=>a2.out _ E1) ?_;clear hK K m6 d8
     try simp only[Qd,Zg7,Zgl,Zg1]
     refine wpAnyL_o 6 λK hK=>?_;obtain⟨w6,y8,o7,n6,o9⟩:=(hF.out.below (Gs hB d7)).reads;rw[Gx Ge];refine Zbq _ (.tmp 24) (.tmp 28) 35 rfl wr.heap.size 41 iF Tryz.underlying35 hi l4 j7 k3 (.slice (some ⟨e0,0,none⟩) 0 0) [] rfl h6 _ _ _ _ w6 rfl y8 o7 n6 Gg d7.size ?_;intro C4 x6 i5 k8 J6 F7;rw[QC,o9]at i5;have l2:=d7.grown k8 d7.size (λk hk=>h6.row_ge k hk);have t7:Below w.heap.size w x6:=Gs hB l2;have i0:Blk x6 i3 41 #[.bool xn,.slice xA xk xc,.bool xm,.slice xB xj xd]:=(k8.block i3 k6.lt (λe=>by simp[Value.ownBlock]at e;have:=x9.out;omega)).trans k6;refine hK.out _ _ (λ_=>a2.out _ t7) ?_;clear hK K
     try simp only[Qd,Zg7,Zgl,Zg1]
     have rL:=l2;have oL:=i5;have bL:=i0;obtain⟨vL,rfl⟩:∃ x:Value,x=C4:=⟨_,rfl⟩;obtain⟨gL,rfl⟩:∃ x:Nat,x=i3:=⟨_,rfl⟩;obtain⟨WL,rfl⟩:=Gy x6
   rotate_left 2
   focus
    obtain⟨f9,h3⟩:=Gz (X0.alloc (.cells #[.bool xn,.slice xA xk xc,.bool xm,.slice xB xj xd] 41));obtain⟨b6,b8⟩:=Gz X0.heap.size;have υ8:Below X0.heap.size X0 f9:=by rw[<- h3];exact(Qc _ _).alloc (Qb _) _
    have j3:Blk f9 b6 41 #[.bool xn,.slice xA xk xc,.bool xm,.slice xB xj xd]:=by rw[<- h3,<- b8];exact Qr _ _ _
    have F6:wr.heap.size<=b6:=by rw[<- b8];exact f5.size
    have b7:=Gs f5 υ8;have t0:Below w.heap.size w f9:=Gs hB b7;go_simp;(try rw[h3]);(try rw[b8]);refine hK.out _ _ (λ_=>a2.out _ t0) ?_;clear hK K h3 b8
    try simp only[Qd,Zg7,Zgl,Zg1]
    refine wpAnyL_o 1 λK hK=>?_;obtain⟨o8,h2⟩:=Gz (f9.alloc (.cells #[] 41));obtain⟨b5,a9⟩:=Gz f9.heap.size;have j9:Below f9.heap.size f9 o8:=by rw[<- h2];exact(Qc _ _).alloc (Qb _) _
    have w0:Blk o8 b5 41 #[]:=by rw[<- h2,<- a9];exact Qr _ _ _
    have p5:wr.heap.size<=b5:=by rw[<- a9];exact b7.size
    have b0:=Gs b7 j9;have w8:Below w.heap.size w o8:=Gs hB b0;have x9:Hid (b6<b5):=Za (by rw[<- a9];exact j3.lt);have b4:=Zc j9 j3;have l3:OwnF 41 o8 wr.heap.size (.slice (some ⟨b5,0,none⟩) 0 0) []:=⟨[],.inr ⟨b5,0,rfl,p5,QE _,w0⟩,λe he=>(by cases he),rfl⟩;go_simp;(try rw[h2]);(try rw[a9]);refine hK.out _ _ (λ_=>a2.out _ w8) ?_;clear hK K h2 a9
    try simp only[Qd,Zg7,Zgl,Zg1]
    refine wpAnyL_o 6 λK hK=>?_;obtain⟨s9,t8,p8,p9,p4⟩:=(hF.out.below (Gs hB b0)).reads;rw[Gx Ge];refine Zbq _ (.tmp 24) (.tmp 28) 35 rfl wr.heap.size 41 iF Tryz.underlying35 hi l4 j7 k3 (.slice (some ⟨b5,0,none⟩) 0 0) [] rfl l3 _ _ _ _ s9 rfl t8 p8 p9 Gg b0.size ?_;intro B8 y6 k9 l6 H9 F5;rw[QC,p4]at k9;have k7:=b0.grown l6 b0.size (λk hk=>l3.row_ge k hk);have r7:Below w.heap.size w y6:=Gs hB k7;have b9:Blk y6 b6 41 #[.bool xn,.slice xA xk xc,.bool xm,.slice xB xj xd]:=(l6.block b6 b4.lt (λe=>by simp[Value.ownBlock]at e;have:=x9.out;omega)).trans b4;refine hK.out _ _ (λ_=>a2.out _ r7) ?_;clear hK K
    try simp only[Qd,Zg7,Zgl,Zg1]
    have rL:=k7;have oL:=k9;have bL:=b9;obtain⟨vL,rfl⟩:∃ x:Value,x=B8:=⟨_,rfl⟩;obtain⟨gL,rfl⟩:∃ x:Nat,x=b6:=⟨_,rfl⟩;obtain⟨WL,rfl⟩:=Gy y6
   all_goals
    refine wpAnyL_o 12 λK hK=>?_;rw[Gx Ge];obtain⟨zA,zc,A9,H3⟩:=oL.fl;rw[e6.out]at A9 H3;subst A9;refine Zbq _ (.tmp 29) (.tmp 34) 35 rfl wr.heap.size 41 iF Tryz.underlying35 hi l4 j7 k3 (.slice zA n zc) _ rfl oL _ (some ⟨gL,0,none⟩) 1 1 [⟨xn,xA,xk,xc,xm,xB,xj,xd,xs[i]?.getD 0⟩] rfl (Zcw _ bL) rfl (by intro e he;rw[Qz]at he;subst he;exact y9.out.below (Gs hB rL)) (by rw[e6.out];omega) rL.size ?_;intro vQ i4 l1 s5 I0 F4;simp only[Qt,Qx]at l1;have g6:=rL.grown s5 rL.size (λk hk=>oL.row_ge k hk);have υ4:Below w.heap.size w i4:=Gs hB g6;rcases l1.fown with ⟨-,t9⟩|⟨g2,c2,rfl,C3,r0,C5,H6⟩;simp at t9;have y7:(Q[i]?.getD [] ++ [xs[i]?.getD 0]).length=n+1:=by rw[QG,e6.out];rfl
    rw[y7]at r0 ⊢;refine hK.out _ _ (λ_=>a2.out _ υ4) ?_;clear hK K
    try simp only[Qd,Zg7,Zgl,Zg1]
    obtain⟨Z1,n8⟩:∃ Z,i4.alloc (.cells #[.slice (some ⟨g2,0,none⟩) (n+1) c2] 35)=Z:=⟨_,rfl⟩;obtain⟨gz,υ7⟩:=Gz i4.heap.size;have z6:Below i4.heap.size i4 Z1:=by rw[<- n8];exact(Qc _ _).alloc (Qb _) _
    have G1:Blk Z1 gz 35 #[.slice (some ⟨g2,0,none⟩) (n+1) c2]:=by rw[<- n8,<- υ7];exact Qr _ _ _
    have E4:=Gs g6 z6;have o6:Below w.heap.size w Z1:=Gs hB E4;refine wpAnyL_o 13 λK hK=>?_;go_simp;(try rw[n8]);(try rw[υ7]);refine hK.out _ _ (λ_=>a2.out _ o6) ?_;clear hK K n8 υ7
    try simp only[Qd,Zg7,Zgl,Zg1]
    have v7:=hM.out.kept E4;have J2:=H6.below z6;have H1:(L.map RF.rs).length+1<=1000:=by rw[Qg];omega
    refine wpAnyL_o 14 λK hK=>?_;rw[Gx Ge];refine Zax _ (.tmp 23) (.tmp 36) 25 rfl w.heap.size 35 iS Tryz.underlying25 ki H0 K0 L5 _ (L.map RF.rs) rfl v7.1 _ (some ⟨gz,0,none⟩) 1 1 [⟨some ⟨g2,0,none⟩,n+1,c2⟩] rfl (Zyo G1) rfl H1 o6.size ?_;intro v5 w5 M2 F3 K9;have s6:=o6.grown F3 o6.size (λk hk=>v7.1.row_ge k hk);have C7:∀ s ∈ L,s.g≠g2:=λs hs=>by have:=J7.out s hs;omega
    have n7:=Za (v7.snoc C9 (r:=⟨g2,c2,Q[i]?.getD [] ++ [xs[i]?.getD 0]⟩) ⟨J2,by rw[y7];exact r0,C5⟩ (Qn hB.size C3) C7 (by simp only[RF.rs,y7];exact M2) F3 K9);have L3:Hid (L.map RF.q ++ [Q[i]?.getD [] ++ [xs[i]?.getD 0]]=R.take (i+1)):=Za (by rw[hQ.out,QK,z4.out i u];rfl);refine hK.out _ _ (λ_=>a2.out _ s6) ?_;clear hK K
    try simp only[Qd,Zg7,Zgl,Zg1]
    (refine Zk (i:=15) (v:=?_) rfl Gi Gi Gi Gi (Or.inl ⟨by kernel_rfl,?_⟩) (λ_=>(a2.out _ s6)) ?_;rotate_left;(· intro W2 _;go_simp;try with_reducible rfl);try simp only[Qd,Zg7,Zgl,Zg1,Gr,Gq,Gp])
    refine wpAnyL_fin ?_;go_wp2_with fail
    go_roundg (n-(i+1))
    case measure=>omega
    case rel=>exact⟨i+1,_,by omega,by go_num,n7.out,Za (by rw[List.map_append];exact L3.out),s6⟩
  | zero =>
   obtain rfl:n=i:=Gk;have t1:decide ((n:Int)<(n:Int))=false:=Gh;have A3:L.map RF.q=R:=by rw[hQ.out];exact QF (by rw[m0.out];exact Qb _)
   obtain⟨go,cap,rfl,H7,M0,O8,g4,d6⟩:=hM.mat C9 (λe=>by rw[e]at f6;simp at f6;omega);rw[f6]at H7;simp only[f6];unfold maxLen at M0
   have J1:Hid (∀ k,k ∈ L.map RF.g->w.heap.size<=k):=Za (λk hk=>by
    obtain⟨r,hr,rfl⟩:=List.mem_map.1 hk;exact d6 r hr)
   have M9:Hid (go ∉ L.map RF.g):=Za (List.nodup_cons.1 g4.2.2).1;obtain⟨w1,rfl⟩:=Gy wr;have I6:Hid (∀ k,k ∈ L.map RF.g->∃ t cs,Blk w1 k t cs/\NoLimb cs):=Za (λk hk=>g4.boxes k (.inr hk));have N5:Hid (go<w1.heap.size):=Za (by obtain⟨t,cs,hb,-⟩:=g4.boxes go (.inl rfl);exact hb.lt);have A6:=Za A3;replace g4:=Za g4;replace f6:=Za f6;replace hB:=Za hB;clear hM hQ A3 d6;go_wp2_with fail
   go_loopg [9] n (λk iv wr=>∃ (p:Nat) (L1:List RF),p+k=n/\iv=.int .i64 p/\MatB 35 41 wr go L1/\Hid (L1.length=n)/\Hid (L1.map RF.g=L.map RF.g)/\Hid (L1.map RF.c=L.map RF.c)/\Hid (L1.map RF.q=Zfs R p)/\Hid (posP AR p)/\Kept (λg=>g ∈ L.map RF.g) w1 wr)
   case atStart=>exact⟨0,L,by omega,rfl,g4.out,f6,Za rfl,Za rfl,Za A6.out,Za (λt ht=>by omega),QD _ _⟩
   case round =>
    clear g4;obtain⟨wp_,rfl⟩:=Gy wr;obtain⟨p,L1,P0,rfl,hM,d0,K2,D4,w9,a0,hK⟩:=hrel;have ah:Hid (Below w.heap.size w wp_):=Za (hB.out.trans (hK.to_below J1.out hB.out.size))
    have hE:Hid (∀ i k,i<n->min p i<=k->(Zdf L1 i)[k]?.getD 0=Zr AR p i k):=Za (λi k hi hk=>by
     rw[<- Zkj,w9.out,<- l9.out];exact Ze0 m0.out j6.out p Gk i k hi hk)
    have a5:Hid (∀ i,i<n->(Zdf L1 i).length=n+1):=Za (λi hi=>by
     rw[Znm,w9.out];exact Zkx j6.out p i (by rw[m0.out];exact hi))
    cases gk with
    | zero =>
     obtain rfl:n=p:=Gk;have t2:decide ((n:Int)<(n:Int))=false:=Gh;have I3:Hid (∀ i k,i<n->i<=k->(Zdf L1 i)[k]?.getD 0=Zr AR i i k):=Za (λi k hi hk=>by rw[hE.out i k hi Gk,Zmv Gk]);have T:=hX.out a0.out;obtain⟨E,i2⟩:∃ E:Nat->Nat->Rat,(λi j=>Zr AR i i j)=E:=⟨_,rfl⟩;rw[i2]at T;have υ9:Hid (∀ i k,i<n->i<=k->(Zdf L1 i)[k]?.getD 0=E i k):=Za (λi k hi hk=>by rw[I3.out i k hi hk,<- i2]);have t6:Hid (∀ i k,i<n->SmN 380 380 (E i k)):=Za (λi k hi=>by rw[<- i2];exact hs.out i i k Gk (a0.out.mono Gk) hi);have G5:Hid (∀ i,i<n->E i i≠0):=Za (λi hi=>by rw[<- i2];exact a0.out.ne hi);obtain⟨e1,e2,e3⟩:=T;replace e1:=Za e1;replace e2:=Za e2;replace e3:=Za e3;replace i2:=Za i2;have G8:=Zu9 (P:=Tryz.prog) 35 41 Tryz.underlying35 hi l4 j7 k3 (n:Int) n rfl Gk wp_;obtain⟨gO,j0⟩:=Gz wp_.heap.size;obtain⟨X2,v6,υ6,-,-,-,sX⟩:=Zp 41 (Z0 (Qa n Zau)) (Qc wp_.heap.size wp_) (Qb _);have hO:FTail 41 X2 gO n n (λi=>X i n):=by rw[<- v6,<- j0];exact FTail.new _ _ _ _
     have h8:=Za (hM.below υ6);have D9:Hid (Below w.heap.size w X2):=Gn ah υ6;have C1:Hid (w.heap.size<=gO):=Za (by rw[<- j0];exact ah.out.size)
     have D7:Hid (go≠gO):=Za (by
      obtain⟨t,cs,hb,-⟩:=hM.boxes go (.inl rfl);have:=hb.lt;omega)
     have z8:Hid (∀ r ∈ L1,r.g≠gO):=Za (λr hr=>by
      obtain⟨t,cs,hb,-⟩:=hM.boxes r.g (.inr (List.mem_map.2 ⟨r,hr,rfl⟩));have:=hb.lt;omega)
     have P5:Hid (∃ t cs,Blk X2 gO t cs/\NoLimb cs):=Za hO.raw.box;have G0:IntKind.i64.wrap ((n:Int)-1)=(n:Int)-1:=by rw[IntKind.wrap_i64];omega
     replace hO:=Za hO;replace hK:=Za hK;clear hM υ6 sX;go_wp2_with fail;(try rw[v6]);(try rw[j0]);clear G8 v6;replace j0:=Za j0
     go_loopg [14] n (λk iv wr=>iv=.int .i64 ((k:Int)-1)/\k<=n/\MatB 35 41 wr go L1/\FTail 41 wr gO n k (λi=>X i n)/\Kept (λg=>g=gO) X2 wr)
     case atStart=>exact⟨by go_num,Qb _,h8.out,hO.out,QD _ _⟩
     case round =>
      clear h8 hO G0;obtain⟨f8,rfl⟩:=Gy wr;obtain⟨rfl,O1,hM,hO,a7⟩:=hrel;cases gk with
      | zero =>
       have t3:decide ((0:Int)<=((0:Nat):Int)-1)=false:=Gj;have D0:decide ((0:Int) <= -1)=false:=Gj;have K3:=Za (hO.fl (by unfold maxLen;omega));have G2:Hid (Below w.heap.size w f8):=Za (D9.out.trans (a7.to_below (λk e=>by have:=C1.out;omega) D9.out.size));have U:=a0;replace hM:=Za hM;replace a7:=Za a7;replace hO:=Za hO;go_wp2_with fail;go_returns;exact⟨G2.out,.inl ⟨U.out,_,_,rfl,K3.out⟩⟩
      | succ i =>
       have e9:((i+1:Nat):Int)-1=(i:Int):=Gk;rw[e9];have u:i<n:=Gk;have t3:decide ((0:Int)<=(i:Int))=true:=Gv Gk;have bi:(i:Int)<(n:Int):=Gk;have bnn:(n:Int)<((n+1:Nat):Int):=Gk;have M6:(n:Int)<(n:Int)+1:=Gk;obtain⟨ri,O⟩:=Zb3 (L:=L1) (i:=i) (by rw[d0.out];exact u);have b1:ri.q=Zdf L1 i:=(Zgi O).symm;have c7:ri.q.length=n+1:=by rw[b1];exact a5.out i u
       obtain⟨ci,zi⟩:=hM.cell O;obtain⟨fi,x7,r8⟩:=hM.row O;rw[c7]at ci x7;unfold maxLen at r8;obtain⟨xn,xA,xk,xc,xm,xB,xj,xd,p0,p1,p2,p3,bJ⟩:=fi.at_ (i:=n) (by rw[c7];omega);rw[b1,υ9.out i n u Gk]at bJ;obtain⟨V1,H2,i8,a1,s1⟩:=Zak f8 41 #[.bool false,.slice none 0 0,.bool false,.slice none 0 0];obtain⟨gs,d6⟩:=Gz f8.heap.size;rw[d6]at a1 s1;obtain⟨υ0,υ1,υ2,υ3,v0,v1,v2,v3⟩:=a1.four;obtain⟨W4,D5,a4,D2,s4⟩:=Zav xn xA xk xc xm xB xj xd a1;have e7:Below f8.heap.size f8 W4:=i8.trans (D2.to_below (λk e=>by omega) i8.size);have I5:Hid (W4.heap.size=gs+1):=Za (by rw[s4,s1]);have z5:=Za (bJ.below e7);have P2:=Za (hM.below e7);have O2:=Za (hO.below e7);have M5:Hid (Kept (λg=>g=gO) X2 W4):=Za (a7.below e7);have I8:Hid (upS E X i n (i+1)=E i n):=Za (Ztc _ _ _ _ _ (Qb _));have K6:IntKind.i64.wrap ((i:Int)+1)=((i+1:Nat):Int):=by rw[IntKind.wrap_i64];omega
       have N1:IntKind.i64.wrap ((i:Int)-1)=(i:Int)-1:=by rw[IntKind.wrap_i64];omega
       have M7:Hid (gO<gs):=Za (by have:=hO.raw.lt;omega);replace e7:=Za e7;replace a4:=Za a4;replace hM:=Za hM;replace hO:=Za hO;replace a7:=Za a7;clear bJ i8 D2 s1 s4 fi b1;go_wp2_with fail;(try rw[d6]);(try rw[D5]);clear υ0 υ1 υ2 υ3 v0 v1 v2 v3 a1 H2 D5 p0 p1 p2 p3 ci zi;replace d6:=Za d6
       go_loopg [16] (n-(i+1)) (λk kv wr=>∃ (t:Nat) (sn:Bool) (sA:Option Addr) (sk sc:Nat) (sm:Bool) (sB:Option Addr) (sj sd:Nat),t+k=n/\kv=.int .i64 t/\i+1<=t/\Blk wr gs 41 #[.bool sn,.slice sA sk sc,.bool sm,.slice sB sj sd]/\Hid (Fr wr sn sA sk sc sm sB sj sd (upS E X i n t))/\Kept (λg=>g=gs) W4 wr)
       case atStart=>exact⟨i+1,_,_,_,_,_,_,_,_,by omega,by go_num,Qb _,a4.out,Za (by rw[I8.out];exact z5.out),QD _ _⟩
       case round =>
        clear a4 z5 K6;obtain⟨wj,rfl⟩:=Gy wr;obtain⟨t,sn,sA,sk,sc,sm,sB,sj,sd,N9,rfl,K1,C8,B6,E6⟩:=hrel;have N0:=I5.out;have N3:=d6.out;have p6:Hid (Below f8.heap.size f8 wj):=Za (e7.out.trans (E6.to_below (λk e=>by omega) Gk));have i1:=hM.out.below p6.out;have b3:=hO.out.below p6.out;obtain⟨ci,zi⟩:=i1.cell O;obtain⟨fi,-,-⟩:=i1.row O;rw[c7]at ci;have b1:ri.q=Zdf L1 i:=(Zgi O).symm;obtain⟨s0,s1,s2,s3,y0,y1,y2,y3⟩:=C8.four;cases gk with
        | succ k' =>
         obtain rfl:k'=n-(t+1):=Gk;have F9:t<n:=Gk;have t4:decide ((t:Int)<(n:Int))=true:=Gv Gk;have bt:(t:Int)<(n:Int):=Gk;have O0:(t:Int)<((n+1:Nat):Int):=Gk;have P3:(t:Int)<(n:Int)+1:=Gk;obtain⟨an,aA,ak,ac,am,aB,aj,ad,p0,p1,p2,p3,i9⟩:=fi.at_ (i:=t) (by rw[c7];omega);rw[b1,υ9.out i t u Gk]at i9;obtain⟨on_,oA,ok,oc,om,oB,oj,od,o0,o1,o2,o3,L9⟩:=b3.at_ (j:=t) K1 F9;have sa:=(t6.out i t u).sm (i:=380) Gj Gj;have sx:=(e2.out t).sm (i:=300) Gj Gj;have sp:Sm (E i t*X t n):=((t6.out i t u).mulN (e2.out t)).sm Gj Gj;have su:=(e3.out i t).sm (i:=400) Gj Gj;clear fi i1 b3;go_wp2_with fail;obtain⟨X0,T⟩:=Gz wj.drew;have I:Below wj.heap.size wj X0:=by rw[<- T];exact Zf (Qc _ _) 1
         have y:Hid (∀ wx,Below wj.heap.size wj wx->wx.cell? ⟨gs,0,none⟩=some (.bool sn)/\wx.cell? ⟨gs,1,none⟩=some (.slice sA sk sc)/\wx.cell? ⟨gs,2,none⟩=some (.bool sm)/\wx.cell? ⟨gs,3,none⟩=some (.slice sB sj sd)/\wx.cell? ⟨go,i,none⟩=some (.slice (some ⟨ri.g,0,none⟩) (n+1) ri.c)/\wx.cell? ⟨ri.g,t*4,none⟩=some (.bool an)/\wx.cell? ⟨ri.g,t*4+1,none⟩=some (.slice aA ak ac)/\wx.cell? ⟨ri.g,t*4+2,none⟩=some (.bool am)/\wx.cell? ⟨ri.g,t*4+3,none⟩=some (.slice aB aj ad)/\wx.cell? ⟨gO,t*4,none⟩=some (.bool on_)/\wx.cell? ⟨gO,t*4+1,none⟩=some (.slice oA ok oc)/\wx.cell? ⟨gO,t*4+2,none⟩=some (.bool om)/\wx.cell? ⟨gO,t*4+3,none⟩=some (.slice oB oj od)):=Za (λwx f=>⟨Zb f s0,Zb f s1,Zb f s2,Zb f s3,Zb f ci,Zb f p0,Zb f p1,Zb f p2,Zb f p3,Zb f o0,Zb f o1,Zb f o2,Zb f o3⟩);refine wp_heldS [14] hmx y (by rw[T];exact I) (λhxs=>?_);rw[T];refine Zj5 12 [0,1,2,3,4,5,6,7,8,9,10,11] rfl Gi (y.out _ I) ?_
         iterate 12 (refine tkA ?_;try simp only[Qd,Zg7,Zgl,Zg1,Gr,Gq,Gp])
         refine tk0 ?_;refine wpAnyL_o 12 λK hK=>?_;go_simp;refine(Zll an aA ak ac am aB aj ad on_ oA ok oc om oB oj od _ _ X0 (i9.below I) (L9.below I) sa sx).mono ?_;rintro e e5 ⟨d9,yn,yA,yk,yc,ym,yB,yj,yd,rfl,hy⟩;have C:=Gs I d9;refine hK.out _ _ (λ_=>y.out _ C) ?_;clear hK K
         try simp only[Qd,Zg7,Zgl,Zg1]
         refine wpAnyL_o 13 λK hK=>?_;go_simp;refine(Zlq sn sA sk sc sm sB sj sd yn yA yk yc ym yB yj yd _ _ e5 (B6.out.below C) hy su sp).mono ?_;rintro e F2 ⟨l5,zn,zA,zk,zc,zm,zB,zj,zd,rfl,hz⟩;have J:=Gs C l5;refine hK.out _ _ (λ_=>y.out _ J) ?_;clear hK K
         try simp only[Qd,Zg7,Zgl,Zg1]
         have m7:=Zc J C8;obtain⟨f0,f1,f2,f3,G9,I7,G7,K4⟩:=m7.four;obtain⟨W7,E8,p7,w4,s7⟩:=Zav zn zA zk zc zm zB zj zd m7;have I9:=Za (hz.keptN w4 m7 (Za9 _ _ _ _ _ _ _ _));have J9:Hid (Kept (λg=>g=gs) W4 W7):=Za ((E6.below J).trans w4);replace p7:=Za p7;clear w4 hz hy;refine Zv (i:=14) rfl Gi Gi (λK hK=>?_);go_simp;(try rw[E8]);refine hK.out _ _ ?_;clear hK K
         try simp only[Qd,Zg7,Zgl,Zg1]
         refine wpAnyL_fin ?_;clear E8 f0 f1 f2 f3 G9 I7 G7 K4 m7 y hxs I J T s0 s1 s2 s3 p0 p1 p2 p3 o0 o1 o2 o3;have J4:Hid (Fr W7 zn zA zk zc zm zB zj zd (upS E X i n (t+1))):=Za (by rw[Zq9 _ _ Gk];exact I9.out);go_wp2_with fail
         go_roundg (n-(t+1))
         case measure=>omega
         case rel=>exact⟨t+1,_,_,_,_,_,_,_,_,by omega,by go_num,by omega,p7.out,J4,J9.out⟩
        | zero =>
         obtain rfl:n=t:=Gk;have t4:decide ((n:Int)<(n:Int))=false:=Gh;have P6:(i:Int)<((n+1:Nat):Int):=Gk;have N7:(i:Int)<(n:Int)+1:=Gk;obtain⟨an,aA,ak,ac,am,aB,aj,ad,p0,p1,p2,p3,i9⟩:=fi.at_ (i:=i) (by rw[c7];omega);rw[b1,υ9.out i i u Gk]at i9;obtain⟨on_,oA,ok,oc,om,oB,oj,od,o0,o1,o2,o3⟩:=b3.raw.cells u;have E0:=b3.raw.frozen (i*4);have D3:=b3.raw.frozen (i*4+1);have A8:=b3.raw.frozen (i*4+2);have E3:=b3.raw.frozen (i*4+3);have sa:=(t6.out i i u).sm (i:=380) Gj Gj;have su:=(e3.out i n).sm (i:=400) Gj Gj;replace i1:=Za i1;replace b3:=Za b3;clear fi;go_wp2_with fail;obtain⟨X0,T⟩:=Gz wj.drew;have I:Below wj.heap.size wj X0:=by rw[<- T];exact Zf (Qc _ _) 1
         have y:Hid (∀ wx,Below wj.heap.size wj wx->wx.cell? ⟨gs,0,none⟩=some (.bool sn)/\wx.cell? ⟨gs,1,none⟩=some (.slice sA sk sc)/\wx.cell? ⟨gs,2,none⟩=some (.bool sm)/\wx.cell? ⟨gs,3,none⟩=some (.slice sB sj sd)/\wx.cell? ⟨go,i,none⟩=some (.slice (some ⟨ri.g,0,none⟩) (n+1) ri.c)/\wx.cell? ⟨ri.g,i*4,none⟩=some (.bool an)/\wx.cell? ⟨ri.g,i*4+1,none⟩=some (.slice aA ak ac)/\wx.cell? ⟨ri.g,i*4+2,none⟩=some (.bool am)/\wx.cell? ⟨ri.g,i*4+3,none⟩=some (.slice aB aj ad)):=Za (λwx f=>⟨Zb f s0,Zb f s1,Zb f s2,Zb f s3,Zb f ci,Zb f p0,Zb f p1,Zb f p2,Zb f p3⟩);refine wp_heldS [12] hmx y (by rw[T];exact I) (λhxs=>?_);rw[T];refine Zj5 10 [0,1,2,3,4,5,6,7,8,9] rfl Gi (y.out _ I) ?_
         iterate 10 (refine tkA ?_;try simp only[Qd,Zg7,Zgl,Zg1,Gr,Gq,Gp])
         refine tk0 ?_;refine wpAnyL_o 10 λK hK=>?_;go_simp;refine(Zl9 sn sA sk sc sm sB sj sd an aA ak ac am aB aj ad _ _ X0 (B6.out.below I) (i9.below I) su sa (G5.out i u)).mono ?_;rintro e e5 ⟨d9,zn,zA,zk,zc,zm,zB,zj,zd,rfl,hz⟩;have C:=Gs I d9;refine hK.out _ _ (λ_=>y.out _ C) ?_;clear hK K
         try simp only[Qd,Zg7,Zgl,Zg1]
         refine Zgm 1 [11] rfl Gi (y.out _ C) ?_
         (refine tkA ?_;try simp only[Qd,Zg7,Zgl,Zg1,Gr,Gq,Gp])
         refine tk0 ?_;have x8:=b3.out.below C;have B7:=i1.out.below C;have I4:Hid (upS E X i n n/E i i=X i n):=Za (e1.out i u).symm;rw[I4.out]at hz;obtain⟨Z9,d3⟩:=Gz (Zgb e5 gO i zn zA zk zc zm zB zj zd);have a8:=d3;unfold Zgb at a8;have s8:Kept (λg=>g=gO) e5 Z9:=by rw[<- d3];exact Zpj (QD _ _) (.inl rfl)
         have G3:Hid (FTail 41 Z9 gO n i (λi=>X i n)):=Za (by rw[<- d3];exact x8.set_ u hz);have J8:∀ k,k=gO->∃ t cs,Blk e5 k t cs/\NoLimb cs:=λk hk=>by rw[hk];exact x8.raw.box
         have w3:Hid (MatB 35 41 Z9 go L1):=Za (B7.keptG s8 D7.out (λr hr=>z8.out r hr) J8);have v8:Hid (Kept (λg=>g=gO) X2 Z9):=Za ((a7.out.below (Gs p6.out C)).trans s8);have f0:=Zl C o0 E0;have f1:=Zl C o1 D3;have f2:=Zl C o2 A8;have f3:=Zl C o3 E3;have g0:=Zb C o0;have g1:=Zb C o1;have g2:=Zb C o2;have g3:=Zb C o3;clear x8 B7 d3 s8 hz;refine Zv (i:=12) rfl Gi Gi (λK hK=>?_);go_simp;(try rw[a8]);refine hK.out _ _ ?_;clear hK K
         try simp only[Qd,Zg7,Zgl,Zg1]
         refine wpAnyL_fin ?_;clear a8 f0 f1 f2 f3 g0 g1 g2 g3 C I y hxs T s0 s1 s2 s3 p0 p1 p2 p3 o0 o1 o2 o3 E0 D3 A8 E3;go_wp2_with fail
         go_roundg i
         case measure=>omega
         case rel=>exact⟨by go_num,by omega,w3.out,G3.out,v8.out⟩
    | succ j =>
     obtain rfl:j=n-(p+1):=Gk;have U:p<n:=Gk;have t2:decide ((p:Int)<(n:Int))=true:=Gv Gk;have bp:(p:Int)<(n:Int):=Gk;have P7:(p:Int)<(n:Int)+1:=Gk;have bpn:(p:Int)<((n+1:Nat):Int):=Gk;obtain⟨rp,w2⟩:=Zb3 (L:=L1) (i:=p) (by rw[d0.out];exact U);have fa:rp.q=Zdf L1 p:=(Zgi w2).symm;have eZ:rp.q.length=n+1:=by rw[fa];exact a5.out p U
     obtain⟨cp,zp⟩:=hM.cell w2;obtain⟨fp,J5,I2⟩:=hM.row w2;rw[eZ]at cp J5;unfold maxLen at I2;obtain⟨n1,A1,k1,c1,m1,B1,j1,d1,p0,p1,p2,p3,bJ⟩:=fp.at_ (i:=p) (by rw[eZ];omega);rw[fa,hE.out p p U Gk]at bJ;have l7:Hid (Zr AR p p p=dQ AR p):=Za rfl;have V:=bJ.pos_iff;have O9:IntKind.i64.wrap ((p:Int)+1)=((p+1:Nat):Int):=by rw[IntKind.wrap_i64];omega
     cases n1
     case true =>
      have ik:Hid (¬ posP AR n):=Za (λh=>by have:=V.2 (by rw[l7.out];exact h p U);simp at this);replace hM:=Za hM;replace hK:=Za hK;replace V:=Za V;exact ID
     by_cases e4:k1=0
     case pos =>
      have ik:Hid (¬ posP AR n):=Za (λh=>(V.2 (by rw[l7.out];exact h p U)).2 e4);have t3:((k1:Int) == 0)=true:=by simp[e4]
      have D0:decide (k1=0)=true:=by simpa using e4
      replace hM:=Za hM;replace hK:=Za hK;replace V:=Za V;have q9:=bJ.1.2.1;subst e4;exact ID
     have f7:Hid (posP AR (p+1)):=Za (λt ht=>by
      rcases Qh t p with h1|h1;exact a0.out t h1;rw[show t=p by omega];exact(by rw[<- l7.out];exact V.1 ⟨rfl,e4⟩))
     have t3:((k1:Int) == 0)=false:=by simp;omega
     have D0:decide (k1=0)=false:=by simpa using e4
     have q9:=bJ.1.2.1;replace hM:=Za hM;replace hK:=Za hK;replace V:=Za V;replace e4:=Za e4;clear fp fa eZ bJ;go_wp2_with fail
     go_loopg [10] (n-(p+1)) (λk iv wr=>∃ (i:Nat) (L2:List RF),i+k=n/\iv=.int .i64 i/\p+1<=i/\MatB 35 41 wr go L2/\Hid (L2.length=n)/\Hid (L2.map RF.g=L.map RF.g)/\Hid (L2.map RF.c=L.map RF.c)/\Hid (ClrTo L1 L2 p p i)/\Kept (λg=>g ∈ L.map RF.g) w1 wr)
     case atStart=>exact⟨p+1,L1,by omega,by go_num,Qb _,hM.out,d0,K2,D4,Za (λj hj=>by by_cases h1:j<=p \/ p+1<=j;rw[Gx h1];exact absurd h1 Gk),hK.out⟩
     case round =>
      clear hM hK cp zp p0 p1 p2 p3 q9;obtain⟨wi,rfl⟩:=Gy wr;obtain⟨i,L2,L4,rfl,O3,hM,b2,j8,r5,q4,hK⟩:=hrel;cases gk with
      | zero =>
       obtain rfl:n=i:=Gk;have t4:decide ((n:Int)<(n:Int))=false:=Gh
       have hfin:Hid (L2.map RF.q=Zfs R (p+1)):=Za (by
        rw[ClrTo.done (by rw[d0.out];exact q4.out) (by rw[b2.out,d0.out]),w9.out];rfl)
       replace hM:=Za hM;replace hK:=Za hK;go_wp2_with fail
       go_roundg (n-(p+1))
       case measure=>omega
       case rel=>exact⟨p+1,L2,by omega,by go_num,hM.out,b2,j8,r5,hfin,f7,hK.out⟩
      | succ j =>
       obtain rfl:j=n-(i+1):=Gk;have u:i<n:=Gk;have t4:decide ((i:Int)<(n:Int))=true:=Gv Gk;have bi:(i:Int)<(n:Int):=Gk;obtain⟨ri,O⟩:=Zb3 (L:=L2) (i:=i) (by rw[b2.out];exact u);obtain⟨r2,g5⟩:=Zb3 (L:=L2) (i:=p) (by rw[b2.out];exact U)
       have b1:ri.q=Zdf L1 i:=by
        have:=q4.out i (by rw[d0.out];exact u);rw[Zgi O,Gx (Or.inr (Qb i))]at this;exact this
       have x5:r2.q=Zdf L1 p:=by
        have:=q4.out p (by rw[d0.out];exact U);rw[Zgi g5,Gx (Or.inl (Qb p))]at this;exact this
       have c7:ri.q.length=n+1:=by rw[b1];exact a5.out i u
       have o4:r2.q.length=n+1:=by rw[x5];exact a5.out p U
       obtain⟨ci,zi⟩:=hM.cell O;obtain⟨cr,zr⟩:=hM.cell g5;obtain⟨fi,x7,r8⟩:=hM.row O;obtain⟨fr,M4,J0⟩:=hM.row g5;rw[c7]at ci x7;rw[o4]at cr M4;unfold maxLen at r8 J0;have N4:=hM.ne2 O g5 Gk;obtain⟨n1,A1,k1,c1,m1,B1,j1,d1,p0,p1,p2,p3,bJ⟩:=fi.at_ (i:=p) (by rw[c7];omega);obtain⟨n2,A2,k2,c2,m2,B2,j2,d2,q0,q1,q2,q3,v9⟩:=fr.at_ (i:=p) (by rw[o4];omega);rw[b1,hE.out i p u Gk]at bJ;rw[x5,hE.out p p U Gk]at v9;obtain⟨by_,i7⟩:∃ q:Rat,Zr AR p i p/Zr AR p p p=q:=⟨_,rfl⟩;have r4:Hid (SmN 300 300 by_):=Za (by rw[<- i7];exact hl.out i p Gk u f7.out);have n3:=(hs.out p i p Gk a0.out u).sm (i:=380) Gj Gj;have o5:=(hs.out p p p Gk a0.out U).sm (i:=380) Gj Gj;have F0:Hid (Zr AR p p p≠0):=Za (λh=>by have:=f7.out p Gk;rw[<- l7.out,h]at this;exact absurd this Gj);replace i7:=Za i7;have N8:=Za fi;have N6:=Za fr;clear fi fr;replace hM:=Za hM;replace hK:=Za hK;go_wp2_with fail
       have y:Hid (∀ wx,Below wi.heap.size wi wx->wx.cell? ⟨go,i,none⟩=some (.slice (some ⟨ri.g,0,none⟩) (n+1) ri.c)/\wx.cell? ⟨go,p,none⟩=some (.slice (some ⟨r2.g,0,none⟩) (n+1) r2.c)/\wx.cell? ⟨ri.g,p*4,none⟩=some (.bool n1)/\wx.cell? ⟨ri.g,p*4+1,none⟩=some (.slice A1 k1 c1)/\wx.cell? ⟨ri.g,p*4+2,none⟩=some (.bool m1)/\wx.cell? ⟨ri.g,p*4+3,none⟩=some (.slice B1 j1 d1)/\wx.cell? ⟨r2.g,p*4,none⟩=some (.bool n2)/\wx.cell? ⟨r2.g,p*4+1,none⟩=some (.slice A2 k2 c2)/\wx.cell? ⟨r2.g,p*4+2,none⟩=some (.bool m2)/\wx.cell? ⟨r2.g,p*4+3,none⟩=some (.slice B2 j2 d2)):=Za (λwx f=>⟨Zb f ci,Zb f cr,Zb f p0,Zb f p1,Zb f p2,Zb f p3,Zb f q0,Zb f q1,Zb f q2,Zb f q3⟩);have I:Below wi.heap.size wi wi.drew:=Zf (Qc _ _) 1;refine wp_heldS [] hmx y I (λhxs1=>?_);refine Zj5 14 [0,1,2,3,4,5,6,7,8,9,10,11,12,13] rfl Gi (y.out _ I) ?_
       iterate 14 (refine tkA ?_;try simp only[Qd,Zg7,Zgl,Zg1,Gr,Gq,Gp])
       refine tk0 ?_;refine Za5 [(14,88),(15,11)] (λ_=>[]) [(14,88),(15,11)] (Zms wi.heap.size (Zr AR p i p/Zr AR p p p) 14 15) 1 Gi (λ_ _ _ _ _ hb h=>Ztn hb h) (λwx h=>y.out _ (Gs I h)) ?hop1 ?hfin1
       case hop1 =>
        intro p hp;simp only[List.mem_cons,List.not_mem_nil,or_false]at hp;simp only[Qt,Qx,Zal,Qd,Zg7,Zgl,Zg1];rcases hp with rfl|rfl
        ·intro ν wx hb hP
         have f:=Gs I hb;refine Zm (i:=14) rfl (λK hK=>?_);go_simp;refine(Zl9 n1 A1 k1 c1 m1 B1 j1 d1 n2 A2 k2 c2 m2 B2 j2 d2 _ _ wx (bJ.below f) (v9.below f) n3 o5 F0.out).mono ?_;rintro e w5 ⟨H4,O7,A5,k5,c5,O5,B5,m5,d5,rfl,i6⟩;exact hK.out _ _ ⟨_,rfl,(by simp only[Zms];exact⟨_,_,_,_,_,_,_,_,rfl,i6⟩),H4,trivial⟩
        intro ν wx hb hP;refine Zm (i:=15) rfl (λK hK=>?_);go_simp;exact hK.out _ _ ⟨_,rfl,(by simp only[Zms];exact⟨_,rfl,hb.size,Qr _ _ _⟩),(Qc _ _).alloc (Qb _) _,trivial⟩
       case hfin1 =>
        intro ν wx hb hP;have h0:=hP (14,88) Gh;have h4:=hP (15,11) Gh;simp only[Zms]at h0 h4;obtain⟨bbn,m8,bbk,bbc,bbm,n9,bbj,bbd,h0,bbf⟩:=h0;obtain⟨gbb,h4,kv,qv⟩:=h4;simp only[Qt,Qx,Zal,Qd,Zg7,Zgl,Zg1];rw[h0,h4];clear h0 h4 hP ν;have f:=Gs I hb;have c8:=qv.four;have z3:wi.heap.size<=gbb:=kv;refine(Z7 bbn m8 bbk bbc bbm n9 bbj bbd f z3 qv).elim (λZbb hq=>?_);have c0:=c8.1;have l0:=c8.2.1;have G6:=c8.2.2.1;have c3:=c8.2.2.2.1;have f0:=c8.2.2.2.2.1;have f1:=c8.2.2.2.2.2.1;have f2:=c8.2.2.2.2.2.2.1;have f3:=c8.2.2.2.2.2.2.2;have hZ:=hq.1;refine wpAnyL_o 16 λK hK=>?_;go_simp;(try rw[hZ]);refine hK.out _ _ (λ_=>y.out _ hq.2.1) ?_;clear hK K
        try simp only[Qd,Zg7,Zgl,Zg1]
        refine wpAnyL_fin ?_;have e8:=hq.2.1;have bbb:=Za hq.2.2.1;have A7:Hid (wi.heap.size<=gbb):=Za z3;replace bbf:=Za (Fr.keep bbf hq.2.2.2.1);clear hq hZ c0 l0 G6 c3 f0 f1 f2 f3 c8 qv kv z3 f hb I y hxs1;rw[i7.out]at bbf;have h8:=hM.out.below e8;have a7:Kept (λg=>g ∈ L.map RF.g) w1 Zbb:=hK.out.below e8
        have H5:Hid (gbb ∉ L.map RF.g):=Za (λhmem=>by
         obtain⟨t,cs,hb,-⟩:=I6.out gbb hmem;have:=hb.lt;have:=hK.out.size;have:=A7.out;omega)
        have C6:Hid (∀ k,k ∈ L.map RF.g->∃ t cs,Blk Zbb k t cs/\NoLimb cs):=Za (λk hk=>h8.boxes k (.inr (by rw[j8.out];exact hk)));have G4:Hid (ri.g ∈ L.map RF.g):=Za (by rw[<- j8.out];exact List.mem_map.2 ⟨ri,Ql O,rfl⟩);have P8:Hid (r2.g ∈ L.map RF.g):=Za (by rw[<- j8.out];exact List.mem_map.2 ⟨r2,Ql g5,rfl⟩);clear hK hM p0 p1 p2 p3 q0 q1 q2 q3 n3 o5 bJ v9 ci cr zi zr e8;replace a7:=Za a7;go_wp2_with fail
        go_loopg [12] (n+1-p) (λk iv wr=>∃ (j:Nat) (q3:List Rat),j+k=n+1/\iv=.int .i64 j/\p<=j/\MatB 35 41 wr go (L2.set i ⟨ri.g,ri.c,q3⟩)/\Hid (q3.length=n+1)/\Hid (∀ t:Nat,q3[t]?.getD 0=if p<=t/\t<j then (Zdf L1 i)[t]?.getD 0-by_*(Zdf L1 p)[t]?.getD 0 else (Zdf L1 i)[t]?.getD 0)/\Kept (λg=>g ∈ L.map RF.g) Zbb wr)
        case atStart =>
         refine⟨p,ri.q,by omega,rfl,Qb _,?_,Za c7,Za (λt=>by rw[Gw Gk,b1]),QD _ _⟩
         have e:L2.set i ⟨ri.g,ri.c,ri.q⟩=L2:=by
          apply QJ;intro t;rw[Qi]
          split
          rename_i h;subst h;rw[Gx (by rw[b2.out];exact u),O];rfl
         rw[e];exact h8
        case round =>
         clear h8;obtain⟨wj,rfl⟩:=Gy wr;obtain⟨j,q3,P4,rfl,F8,a6,h7,v4,c6⟩:=hrel;obtain⟨c0,z0⟩:=a6.cell (i:=i) (r:=⟨ri.g,ri.c,q3⟩) (by rw[Qi,Gx rfl,Gx (by rw[b2.out];exact u)]);simp only[h7.out]at c0;cases gk with
         | zero =>
          obtain rfl:j=n+1:=Gk;have t5:decide (((n+1:Nat):Int)<=(n:Int))=false:=Gu Gk;have P1:decide ((n:Int)+1<=(n:Int))=false:=Gu Gk
          have c9:Hid ((L2.set i ⟨ri.g,ri.c,q3⟩).length=n/\(L2.set i ⟨ri.g,ri.c,q3⟩).map RF.g=L.map RF.g/\(L2.set i ⟨ri.g,ri.c,q3⟩).map RF.c=L.map RF.c/\ClrTo L1 (L2.set i ⟨ri.g,ri.c,q3⟩) p p (i+1)):=Za (by
           refine⟨by rw[QB];exact b2.out,?_,?_,?_⟩;rw[Zew (s:=⟨ri.g,ri.c,q3⟩) O rfl];exact j8.out;rw[Zew (s:=⟨ri.g,ri.c,q3⟩) O rfl];exact r5.out;refine q4.out.step (by rw[b2.out,d0.out]) (by rw[d0.out];exact u) Gk ?_;refine rowR_eq (by rw[h7.out,a5.out i u]) (λt=>?_);rw[v4.out t,a5.out i u,hE.out i p u Gk,hE.out p p U Gk,i7.out])
          have I1:Hid (Kept (λg=>g ∈ L.map RF.g) w1 wj):=Za (a7.out.trans c6);replace a6:=Za a6;clear c6;go_wp2_with fail
          go_roundg (n-(i+1))
          case measure=>omega
          case rel=>exact⟨i+1,_,by omega,by go_num,by omega,a6.out,Za c9.out.1,Za c9.out.2.1,Za c9.out.2.2.1,Za c9.out.2.2.2,I1.out⟩
         | succ gk' =>
          obtain rfl:gk'=n-j:=Gk;have m9:j<n+1:=Gk;have t5:decide ((j:Int)<=(n:Int))=true:=Gv Gk;have bj:(j:Int)<(n:Int)+1:=Gk;have O4:(j:Int)<((n+1:Nat):Int):=Gk;obtain⟨l0,z1⟩:=a6.cell (i:=p) (r:=r2) (by rw[Qi,Gw Gk];exact g5);rw[o4]at l0;obtain⟨f3,-,-⟩:=a6.row (i:=i) (r:=⟨ri.g,ri.c,q3⟩) (by rw[Qi,Gx rfl,Gx (by rw[b2.out];exact u)]);obtain⟨f4,-,-⟩:=a6.row (i:=p) (r:=r2) (by rw[Qi,Gw Gk];exact g5);obtain⟨n4,A4,k4,c4,m4,B4,j4,d4,q0,q1,q2,D1,D8⟩:=f4.at_ (i:=j) (by rw[o4];exact m9);rw[x5]at D8;have B9:=c6.blk bbb.out H5.out;obtain⟨x0,x1,x2,x3,-⟩:=B9.four;have M3:Fr wj bbn m8 bbk bbc bbm n9 bbj bbd by_:=⟨c6.wd bbf.out.1 C6.out,c6.wd bbf.out.2 C6.out⟩;have q6:=h7.out;obtain⟨n5,A5,k5,c5,m5,B5,j5,d5,υ0,υ1,υ2,υ3,i6⟩:=f3.at_ (i:=j) (by rw[q6];exact m9)
          have q5:q3[j]?.getD 0=(Zdf L1 i)[j]?.getD 0:=by
           have h1:=v4.out j;rw[Gw Gk]at h1;exact h1
          simp only[q5]at i6;have v0:=f3.frozen (j*4);have v1:=f3.frozen (j*4+1);have v2:=f3.frozen (j*4+2);have v3:=f3.frozen (j*4+3);have L6:Hid (SmN 380 380 ((Zdf L1 i)[j]?.getD 0)):=Za (by rw[hE.out i j u Gk];exact hs.out p i j Gk a0.out u);have E2:Hid (SmN 380 380 ((Zdf L1 p)[j]?.getD 0)):=Za (by rw[hE.out p j U Gk];exact hs.out p p j Gk a0.out U);have n3:=r4.out.sm (i:=300) Gj Gj;have o5:=E2.out.sm (i:=380) Gj Gj;have L8:=L6.out.sm (i:=380) Gj Gj;have K8:Sm (by_*(Zdf L1 p)[j]?.getD 0):=(r4.out.mulN E2.out).sm Gj Gj;replace a6:=Za a6;replace c6:=Za c6;clear f4 B9 f3 q6 q5;go_wp2_with fail;obtain⟨X0,T⟩:=Gz wj.drew;have I:Below wj.heap.size wj X0:=by rw[<- T];exact Zf (Qc _ _) 1
          have y:Hid (∀ wx,Below wj.heap.size wj wx->wx.cell? ⟨go,i,none⟩=some (.slice (some ⟨ri.g,0,none⟩) (n+1) ri.c)/\wx.cell? ⟨go,p,none⟩=some (.slice (some ⟨r2.g,0,none⟩) (n+1) r2.c)/\wx.cell? ⟨ri.g,j*4,none⟩=some (.bool n5)/\wx.cell? ⟨ri.g,j*4+1,none⟩=some (.slice A5 k5 c5)/\wx.cell? ⟨ri.g,j*4+2,none⟩=some (.bool m5)/\wx.cell? ⟨ri.g,j*4+3,none⟩=some (.slice B5 j5 d5)/\wx.cell? ⟨gbb,0,none⟩=some (.bool bbn)/\wx.cell? ⟨gbb,1,none⟩=some (.slice m8 bbk bbc)/\wx.cell? ⟨gbb,2,none⟩=some (.bool bbm)/\wx.cell? ⟨gbb,3,none⟩=some (.slice n9 bbj bbd)/\wx.cell? ⟨r2.g,j*4,none⟩=some (.bool n4)/\wx.cell? ⟨r2.g,j*4+1,none⟩=some (.slice A4 k4 c4)/\wx.cell? ⟨r2.g,j*4+2,none⟩=some (.bool m4)/\wx.cell? ⟨r2.g,j*4+3,none⟩=some (.slice B4 j4 d4)):=Za (λwx f=>⟨Zb f c0,Zb f l0,Zb f υ0,Zb f υ1,Zb f υ2,Zb f υ3,Zb f x0,Zb f x1,Zb f x2,Zb f x3,Zb f q0,Zb f q1,Zb f q2,Zb f D1⟩);refine wp_heldS [23] hmx y (by rw[T];exact I) (λhxs=>?_);rw[T];refine Zj5 20 [0,1,2,3,4,5,6,7,8,9,10,11,12,13,14,15,16,17,18,19] rfl Gi (y.out _ I) ?_
          iterate 20 (refine tkA ?_;try simp only[Qd,Zg7,Zgl,Zg1,Gr,Gq,Gp])
          refine tk0 ?_;refine wpAnyL_o 20 λK hK=>?_;go_simp;refine(Zll bbn m8 bbk bbc bbm n9 bbj bbd n4 A4 k4 c4 m4 B4 j4 d4 _ _ X0 (M3.below I) (D8.below I) n3 o5).mono ?_;rintro e e5 ⟨d9,yn,yA,yk,yc,ym,yB,yj,yd,rfl,hy⟩;have C:=Gs I d9;refine hK.out _ _ (λ_=>y.out _ C) ?_;clear hK K
          try simp only[Qd,Zg7,Zgl,Zg1]
          refine wpAnyL_o 21 λK hK=>?_;go_simp;refine(Zlq n5 A5 k5 c5 m5 B5 j5 d5 yn yA yk yc ym yB yj yd _ _ e5 (i6.below C) hy L8 K8).mono ?_;rintro e F2 ⟨l5,zn,zA,zk,zc,zm,zB,zj,zd,rfl,hz⟩;have J:=Gs C l5;refine hK.out _ _ (λ_=>y.out _ J) ?_;clear hK K
          try simp only[Qd,Zg7,Zgl,Zg1]
          refine Zgm 1 [22] rfl Gi (y.out _ J) ?_
          (refine tkA ?_;try simp only[Qd,Zg7,Zgl,Zg1,Gr,Gq,Gp])
          refine tk0 ?_;have n7:=a6.out.below J;obtain⟨Z9,d3⟩:=Gz (Zgb F2 ri.g j zn zA zk zc zm zB zj zd);have a8:=d3;unfold Zgb at a8;have v8:Hid (Kept (λg=>g ∈ L.map RF.g) Zbb Z9):=Za (by rw[<- d3];exact Zpj (c6.out.below J) (.inl G4.out))
          have w3:Hid (MatB 35 41 Z9 go (L2.set i ⟨ri.g,ri.c,q3.set j ((Zdf L1 i)[j]?.getD 0-by_*(Zdf L1 p)[j]?.getD 0)⟩)):=Za (by
           have h1:=n7.set_ (i:=i) (r:=⟨ri.g,ri.c,q3⟩) (by rw[Qi,Gx rfl,Gx (by rw[b2.out];exact u)]) (k:=j) (by rw[show RF.q ⟨ri.g,ri.c,q3⟩=q3 from rfl,h7.out];exact m9) hz;rw[List.set_set]at h1;rw[<- d3];exact h1)
          have f0:=Zl J υ0 v0;have f1:=Zl J υ1 v1;have f2:=Zl J υ2 v2;have f3:=Zl J υ3 v3;have g0:=Zb J υ0;have g1:=Zb J υ1;have g2:=Zb J υ2;have g3:=Zb J υ3;clear n7 d3;refine Zv (i:=23) rfl Gi Gi (λK hK=>?_);go_simp;(try rw[a8]);refine hK.out _ _ ?_;clear hK K
          try simp only[Qd,Zg7,Zgl,Zg1]
          refine wpAnyL_fin ?_;clear a8 f0 f1 f2 f3 g0 g1 g2 g3 J I y hxs T υ0 υ1 υ2 υ3 x0 x1 x2 x3 v0 v1 v2 v3 q0 q1 q2 D1 hz hy i6 a6 c6 c0 l0 z0 z1;go_wp2_with fail
          go_roundg (n-j)
          case measure=>omega
          case rel=>exact⟨j+1,_,by omega,by go_num,by omega,w3.out,Za (by rw[QB];exact h7.out),Za (Zz9 (by rw[h7.out,a5.out i u]) F8 (by rw[a5.out i u];exact m9) rfl v4.out),v8.out⟩
theorem Zjl{A:Nat->Nat->Rat}{n c:Nat}(h:∀ i,i<n->A i c=0):∀ t i,t<=n->i<n->Zr A t i c=0
 | 0,i,_,hi=>h i hi
 | t+1,i,ht,hi=>by
  show (if t<i then _ else _)=_;rw[Zjl h t i Gk hi,Zjl h t t Gk Gk]
  split
  ·grind
  rfl
theorem SmN.zeroC(a b:Nat):SmN (a+1) (b+1) 0:=⟨by have:=Zb4 (a+1);show (0:Rat).num.natAbs<_;exact this,by
 show (1:Nat)<pw (b+1);rw[Za2];have:=Zb4 b;omega⟩
section
variable{Q:List (List Rat)}{n:Nat}
theorem Zs4(hm:∀ i,i<n->(Q[i]?.getD []).length=n){t i k:Nat}(ht:t<=n)(hi:i<n):Zr (Zi (Zcp Q (Qa n 0) n)) t i k=if k<n then Zr (Zi Q) t i k else 0:=by
 by_cases hk:k<n
 ·rw[Gx hk]
  exact Zcs (n:=n) (m:=n) (λi k hi hk=>Zy4 hm hi hk) (Qb _) t i k ht hi hk
 rw[Gw hk];refine Zjl (n:=n) (λi hi=>?_) t i ht hi;rcases Qh n k with h|h;exact Zvk hm hi h;obtain rfl:n=k:=Gk;rw[Zuq hm hi];simp[List.getElem?_replicate,hi]
theorem Zpt(hm:∀ i,i<n->(Q[i]?.getD []).length=n){i:Nat}(hi:i<n):dQ (Zi (Zcp Q (Qa n 0) n)) i=dQ (Zi Q) i:=by
 unfold dQ;rw[Zs4 hm Gk hi,Gx hi]
theorem Zil(hm:∀ i,i<n->(Q[i]?.getD []).length=n){t:Nat}(ht:t<=n):posP (Zi (Zcp Q (Qa n 0) n)) t ↔ posP (Zi Q) t:=
 ⟨λh s hs=>by rw[<- Zpt hm Gk];exact h s hs,λh s hs=>by rw[Zpt hm Gk];exact h s hs⟩
theorem wide0_l(hm:∀ i,i<n->(Q[i]?.getD []).length=n){i k:Nat}(hi:i<n)(hk:k<n):lQ (Zi (Zcp Q (Qa n 0) n)) i k=lQ (Zi Q) i k:=by
 unfold lQ;rw[Zpt hm hk,Zs4 hm Gk hi,Gx hk]
theorem Zsu(hm:∀ i,i<n->(Q[i]?.getD []).length=n):SolvC (λi j=>Zr (Zi (Zcp Q (Qa n 0) n)) i i j) (λ_ _=>0) n:=by
 have hz:∀ (E:Nat->Nat->Rat) i t,upS E (λ_ _=>0) i n t=E i n:=λE i t=>by
  unfold upS
  have:Zu t (λj=>if i<j then E i j*0 else 0)=0:=by
   induction t with
   | zero=>rfl
   | succ t ih=>simp only[Zu];rw[ih];split <;> grind
  rw[this];grind
 have hE:∀ i,Zr (Zi (Zcp Q (Qa n 0) n)) i i n=0 \/ n<=i:=λi=>by
  rcases Qh i n with h|h;left;rw[Zs4 hm Gk h,Gw Gk];exact .inr h
 refine⟨λi hi=>?_,λi=>SmN.zeroC 299 299,λi t=>?_⟩
 ·rw[hz]
  show (0:Rat)=Zr _ i i n/_;rcases hE i with h|h;rw[h];grind;omega
 rw[hz];show SmN 400 400 (Zr _ i i n);rcases hE i with h|h;rw[h];exact SmN.zeroC 399 399;have h0:∀ t,Zr (Zi (Zcp Q (Qa n 0) n)) t i n=0 \/ True:=λ_=>.inr trivial
 have h1:∀ t j,n<=j->Zr (Zi (Zcp Q (Qa n 0) n)) t j n=0:=λt=>by
  induction t with
  | zero =>
   intro j hj;show Zi _ j n=0;unfold Zi;rw[Qf (l:=Zcp Q _ n) (by rw[Zla];exact hj)];rfl
  | succ t ih =>
   intro j hj;show (if t<j then _ else _)=_
   have h2:Zr (Zi (Zcp Q (Qa n 0) n)) t t n=0:=by
    rcases Qh t n with h3|h3;rw[Zs4 hm Gk h3,Gw Gk];exact ih t h3
   rw[ih j hj,h2]
   split
   ·grind
   rfl
 rw[h1 i i h];exact SmN.zeroC 399 399
end
theorem Zr0(n:Nat)(w:World)(hn9:n<=100) :
    Calls Tryz.prog 58 #[.int .i64 n] w λe w'=>∃ v,e=.returned v/\Below w.heap.size w w'/\OwnF 41 w' w.heap.size v (Qa n 0):=by
 obtain⟨iF,hi,U,a0,a1⟩:=info_parts Zfl;go_in;go_wp2_with fail
 go_loopg [3,4] n (λk ov iv wr=>∃ i:Nat,i+k=n/\iv=.int .i64 i/\Below w.heap.size w wr/\OwnF 41 wr w.heap.size ov (Qa i 0))
 case atStart=>exact⟨0,by omega,rfl,Qc _ _,OwnF.nil _ _ _⟩
 case round =>
  obtain⟨i,a5,rfl,hB,hO⟩:=hrel;cases gk with
  | zero =>
   obtain rfl:n=i:=Gk;have t1:decide ((n:Int)<(n:Int))=false:=Gh;replace hO:=Za hO;go_wp2_with fail;go_ret;exact⟨_,rfl,hB,hO.out⟩
  | succ k' =>
   obtain rfl:k'=n-(i+1):=Gk;have a6:i<n:=Gk;have t1:decide ((i:Int)<(n:Int))=true:=Gv Gk;obtain⟨zA,zc,rfl,f⟩:=hO.fl;have C:(Qa i (0:Rat)).length=i:=Gh;rw[C]at f ⊢;replace hO:=Za hO;replace f:=Za f;go_wp2_with fail;refine(Zxn 0 wr Gj Gj).mono ?_;rintro e w1 ⟨y,xn,xA,xk,xc,xm,xB,xj,xd,rfl,hf⟩;obtain⟨Y1,h⟩:=Gz (w1.alloc (.cells #[.bool xn,.slice xA xk xc,.bool xm,.slice xB xj xd] 41));have u:Below w1.heap.size w1 Y1:=by rw[<- h];exact(Qc _ _).alloc (Qb _) _
   have T:Blk Y1 w1.heap.size 41 #[.bool xn,.slice xA xk xc,.bool xm,.slice xB xj xd]:=by rw[<- h];exact Qr _ _ _
   have V:Fr Y1 xn xA xk xc xm xB xj xd 0:=hf.below u;have o:=(hO.out.kept y).kept u;have O:=hB.trans ((Gs y u).mono hB.size);have I:=O.size;rw[C]at o;go_wp2_with ((try rw[h]);at_builtin;refine Zds _ rfl (.tmp 10) (.tmp 12) 35 rfl w.heap.size 41 iF Tryz.underlying35 hi U a0 a1 _ _ rfl o _ (some ⟨w1.heap.size,0,none⟩) 1 1 [⟨xn,xA,xk,xc,xm,xB,xj,xd,0⟩] rfl (Zcw _ T) rfl (by intro e he;rw[Qz]at he;subst he;exact V) Gg I ?_;intro v2 w5 J a3 a4);have a2:=O.grown a3 I (λk hk=>o.row_ge k hk);simp only[Qt,Qx]at J
   go_roundg (n-(i+1))
   case measure=>omega
   case rel=>exact⟨i+1,by omega,by go_num,a2,by rw[List.replicate_succ'];exact J⟩
theorem IL{G:Prop}(h:G:=by
 go_wp2_with fail;go_ret;exact⟨rfl,cU.trans ((Gs ar eQ).mono cU.size)⟩):G:=h
theorem Zkb(A:Option Addr)(n c:Nat)(rs:List RX)(w:World)(h:MXL w A n c rs)(hF:FacC rs)(E:Int)(hE:Zbg rs=E) :
    Calls Tryz.prog 16 #[.slice A n c] w λe w'=>e=.returned (.int .i64 E)/\Below w.heap.size w w':=by
 have hmx:=Gt;have hl:=Za h.1;have c5:=h.2.1;have b6:=h.2.2.1;unfold maxLen at b6;replace hE:=Za hE;by_cases h6:6<n
 ·have t1:decide ((6:Int)<(n:Int))=true:=Gv Gk
  obtain rfl:E=4:=by rw[<- hE.out];exact Zfw (by unfold long6;rw[hl.out,Gv h6];rfl)
  clear h;go_in;exact EB
 have t1:decide ((6:Int)<(n:Int))=false:=Gu Gk;have hH:=Za h;clear h;go_in;go_wp2_with fail
 go_loopg [3] n (λt iv wr=>∃ i:Nat,i+t=n/\iv=.int .i64 i/\Hid (∀ j r,j<i->rs[j]?=some r->r.long6=false)/\Below w.heap.size w wr)
 case atStart=>exact⟨0,by omega,rfl,Za (λj r hj=>by omega),Qc _ _⟩
 case round =>
  obtain⟨w1,rfl⟩:=Gy wr;obtain⟨i,b8,rfl,C,T⟩:=hrel;cases gk with
  | succ t =>
   obtain rfl:t=n-(i+1):=Gk;have a7:i<n:=Gk;have t2:decide ((i:Int)<(n:Int))=true:=Gv Gk;have bi:(i:Int)<(n:Int):=Gk;obtain⟨g,o,r,rfl,he,c0,hL⟩:=(hH.out.below T).at_ a7;have U:=hL.nlenC;unfold maxLen at U;clear hL;by_cases hx:6<r.n
   ·have t3:decide ((6:Int)<(r.n:Int))=true:=Gv Gk
    obtain rfl:E=4:=by
     rw[<- hE.out];refine Zfw ?_;unfold long6;have:rs.any RX.long6=true:=List.any_eq_true.2 ⟨r,Ql he,by unfold RX.long6;exact Gv hx⟩;rw[this,Bool.or_true]
    replace he:=Za he;replace hx:=Za hx;go_wp2_with fail;go_ret;exact⟨rfl,T⟩
   have t3:decide ((6:Int)<(r.n:Int))=false:=Gu Gk
   have az:Hid (∀ j r',j<i+1->rs[j]?=some r'->r'.long6=false):=Za (λj r' hj he'=>by
    rcases Qh j i with h'|h';exact C.out j r' h' he';obtain rfl:j=i:=Gk;rw[he]at he';cases he';unfold RX.long6;exact Gu hx)
   replace he:=Za he;replace hx:=Za hx;go_wp2_with fail
   go_roundg (n-(i+1))
   case measure=>omega
   case rel=>exact⟨i+1,by omega,by go_num,az,T⟩
  | zero =>
   obtain rfl:n=i:=Gk;have t2:decide ((n:Int)<(n:Int))=false:=Gh
   have a6:Hid (long6 rs=false):=Za (by
    unfold long6;rw[hl.out,Gu h6,Bool.false_or,Qs];intro r hr;obtain⟨j,hj,e⟩:=Qy hr;have:=C.out j r (by rw[hl.out]at hj;exact hj) (by rw[Qe hj,e]);rw[this];decide)
   by_cases u:n=0
   ·have t3:((n:Int) == 0)=true:=by simp[u]
    have b3:decide (n=0)=true:=by simpa using u
    obtain rfl:E=8:=by rw[<- hE.out];exact Zrt a6.out (by rw[hl.out];exact u)
    replace u:=Za u;go_wp2_with fail;go_ret;exact⟨rfl,T⟩
   have t3:((n:Int) == 0)=false:=by simp;omega
   have b3:decide (n=0)=false:=by simpa using u
   replace u:=Za u;replace h6:=Za h6;go_wp2_with fail
   go_loopg [4] n (λt iv wr=>∃ i:Nat,i+t=n/\iv=.int .i64 i/\Hid (∀ j r,j<i->rs[j]?=some r->Zc9 rs.length r=true)/\Below w.heap.size w wr)
   case atStart=>exact⟨0,by omega,rfl,Za (λj r hj=>by omega),T⟩
   case round =>
    clear T C;obtain⟨wi,rfl⟩:=Gy wr;obtain⟨i,b8,rfl,C,bV⟩:=hrel;cases gk with
    | succ t =>
     obtain rfl:t=n-(i+1):=Gk;have a7:i<n:=Gk;have t4:decide ((i:Int)<(n:Int))=true:=Gv Gk;have bi:(i:Int)<(n:Int):=Gk;obtain⟨g,o,r,rfl,he,c0,hL⟩:=(hH.out.below bV).at_ a7;have U:=hL.nlenC;unfold maxLen at U;have bad:Hid (Zc9 rs.length r=false->Zbg rs=8):=Za (λhf=>Zrc a6.out (by rw[hl.out];exact u.out) (Ql he) hf)
     have good:Hid (Zc9 rs.length r=true->∀ j r',j<i+1->rs[j]?=some r'->Zc9 rs.length r'=true):=Za (λhf j r' hj he'=>by
      rcases Qh j i with h'|h';exact C.out j r' h' he';obtain rfl:j=i:=Gk;rw[he]at he';cases he';exact hf)
     replace he:=Za he;by_cases hq:r.n=n
     case neg =>
      have t5:((r.n:Int) == (n:Int))=false:=beq_eq_false_iff_ne.2 Gk;have b4:((r.n:Int) != (n:Int))=true:=by rw[bne,t5];rfl
      have b1:decide (r.n=n)=false:=by simpa using hq
      obtain rfl:E=8:=by rw[<- hE.out];exact bad.out (by unfold Zc9;rw[hl.out,Gu hq];rfl)
      replace hq:=Za hq;clear hL;go_wp2_with fail;go_ret;exact⟨rfl,bV⟩
     have t5:((r.n:Int) == (n:Int))=true:=beq_iff_eq.2 Gk;have b4:((r.n:Int) != (n:Int))=false:=by rw[bne,t5];rfl
     have b1:decide (r.n=n)=true:=by simpa using hq
     obtain⟨y,hy⟩:=Gz (Zc0 r.es);have hV:=Za (λW1 (hb:Below wi.heap.size wi W1)=>Zoh r.A r.n r.c r.es W1 (hL.below hb) y hy);have b7:=Za hq;replace hq:=Za hq;clear hL;cases y
     ·obtain rfl:E=8:=by rw[<- hE.out];exact bad.out (by unfold Zc9;rw[hy];simp)
      clear hy;go_wp2_with fail;refine(hV.out _ (by first|exact Qc _ _|exact Zf (Qc _ _) _)).mono ?_;rintro e' w2 ⟨rfl,aa⟩;go_wp2_with fail;go_ret;exact⟨rfl,Gs bV aa⟩
     have az:=Za (good.out (by unfold Zc9;rw[hy,hl.out,b7.out,Gv rfl];rfl));clear hy;go_wp2_with fail;refine(hV.out _ (by first|exact Qc _ _|exact Zf (Qc _ _) _)).mono ?_;rintro e' w2 ⟨rfl,aa⟩;exact Ir
    | zero =>
     obtain rfl:n=i:=Gk;have t4:decide ((n:Int)<(n:Int))=false:=Gh
     have hV:Hid (covV rs):=Za ⟨a6.out,by rw[hl.out];exact u.out,by
      rw[QL];intro r hr;obtain⟨j,hj,e⟩:=Qy hr;exact C.out j r (by rw[hl.out]at hj;exact hj) (by rw[Qe hj,e])⟩
     have hM:=Za (hV.out.good (hH.out.below bV));have c6:Hid (∀ a b,Sm (Zi (qM rs) a b)):=Za (λa b=>(hV.out.small64 hH.out).smC Gj a b);have f:Hid (∀ a,a<n->((qM rs)[a]?.getD []).length=n):=Za (λa ha=>hV.out.row hH.out a ha);go_wp2_with fail
     go_loopg [5] n (λt jv wr=>∃ j:Nat,j+t=n/\jv=.int .i64 j/\Hid (∀ a b,a<j->b<a->Zi (qM rs) a b=Zi (qM rs) b a)/\Below wi.heap.size wi wr)
     case atStart=>exact⟨0,by omega,rfl,Za (λa b ha=>by omega),Qc _ _⟩
     case round =>
      obtain⟨wj,rfl⟩:=Gy wr;obtain⟨j,c4,rfl,a9,O⟩:=hrel;have cU:=Gs bV O;cases gk with
      | zero =>
       obtain rfl:n=j:=Gk;have t5:decide ((n:Int)<(n:Int))=false:=Gh
       have hs:Hid (Zhd (qM rs)=true):=Za (by
        unfold Zhd;rw[decide_eq_true_eq];intro a ha b hb;rw[show (qM rs).length=n by unfold qM;rw[Qg,hl.out]]at ha;exact a9.out a b ha hb)
       have b0:Hid (FacP (Zi (qM rs)) n):=Za (by have:=hF hV.out hs.out;rw[hl.out]at this;exact this);go_wp2_with fail;refine(Zr0 n wj (by have:=h6.out;omega)).mono ?_;rintro e w5 ⟨v,rfl,ar,hO⟩;obtain⟨zA,zc,rfl,hz⟩:=hO.fl;have U:(Qa n (0:Rat)).length=n:=Gh;rw[U]at hz ⊢;replace hz:=Za hz;clear hO;go_wp2_with fail;refine(Zqr A n c (qM rs) zA zc _ w5 (hM.out.below (Gs O ar)) hz.out (by have:=u.out;omega) (by have:=h6.out;omega) f.out (λt i k ht hp hi=>?_) (λi k hk hi hp=>?_) (λ_ _=>0) (λ_=>Zsu f.out)).mono ?_
       ·rw[Zs4 f.out ht hi]
        split
        rename_i h1;exact b0.out.s t i k ht ((Zil f.out ht).1 hp) hi h1;exact SmN.zeroC 379 379
       ·rw[wide0_l f.out hi Gk]
        exact b0.out.l i k hk hi ((Zil f.out Gk).1 hp)
       rintro e w6 ⟨eQ,⟨hp,B,c',rfl,-⟩|⟨hp,rfl⟩⟩
       ·obtain rfl:E=0:=by rw[<- hE.out];exact hV.out.pos hs.out (by rw[hl.out];exact(Zil f.out (Qb _)).1 hp)
        exact IL
       obtain rfl:E=8:=by rw[<- hE.out];exact hV.out.neg hs.out (by rw[hl.out];exact λh=>hp ((Zil f.out (Qb _)).2 h))
       exact IL
      | succ t =>
       obtain rfl:t=n-(j+1):=Gk;have a2:j<n:=Gk;have t5:decide ((j:Int)<(n:Int))=true:=Gv Gk;have bj:(j:Int)<(n:Int):=Gk;go_wp2_with fail
       go_loopg [6] j (λt kv wr=>∃ k:Nat,k+t=j/\kv=.int .i64 k/\Hid (∀ b,b<k->Zi (qM rs) j b=Zi (qM rs) b j)/\Below wj.heap.size wj wr)
       case atStart=>exact⟨0,by omega,rfl,Za (λb hb=>by omega),Qc _ _⟩
       case round =>
        obtain⟨wk,rfl⟩:=Gy wr;obtain⟨k,c1,rfl,a8,V⟩:=hrel;cases gk with
        | zero =>
         obtain rfl:j=k:=Gk;have t6:decide ((j:Int)<(j:Int))=false:=Gh
         have b2:Hid (∀ a b,a<j+1->b<a->Zi (qM rs) a b=Zi (qM rs) b a):=Za (λa b ha hb=>by
          rcases Qh a j with h'|h';exact a9.out a b h' hb;obtain rfl:a=j:=Gk;exact a8.out b hb)
         go_wp2_with fail
         go_roundg (n-(j+1))
         case measure=>omega
         case rel=>exact⟨j+1,by omega,by go_num,b2,Gs O V⟩
        | succ t' =>
         obtain rfl:t'=j-(k+1):=Gk;have c3:k<j:=Gk;have t6:decide ((k:Int)<(j:Int))=true:=Gv Gk;have bk:(k:Int)<(j:Int):=Gk;have bki:(k:Int)<(n:Int):=Gk;have a4:=Gs O V;obtain⟨g,o,A',n',c',rfl,c0,hR⟩:=(hM.out.below a4).at_ a2;have b5:n=n':=by rw[<- hR.len];exact(f.out j a2).symm
         subst b5;have a5:=hR.cap;unfold maxLen at a5;obtain⟨ga,oa,xn,xA,xk,xc,xm,xB,xj,xd,rfl,⟨r0,r1,r2,r3⟩,hX⟩:=hR.at_ (show k<n by omega);obtain⟨A2,n2,c2,ck,a0⟩:=(hM.out.below a4).atS (show k<n by omega);have b9:n=n2:=by rw[<- a0.len];exact(f.out k Gk).symm
         subst b9;have Y:=a0.cap;unfold maxLen at Y;obtain⟨gb,ob,yn,yA,yk,yc,ym,yB,yj,yd,rfl,⟨s0,s1,s2,s3⟩,hY⟩:=a0.at_ a2;have eX:((qM rs)[j]?.getD [])[k]?.getD 0=Zi (qM rs) j k:=rfl;have eY:((qM rs)[k]?.getD [])[j]?.getD 0=Zi (qM rs) k j:=rfl;rw[eX]at hX;rw[eY]at hY;replace hX:=Za hX;replace hY:=Za hY;clear eX eY a0 hR;go_wp2_with fail;obtain⟨X0,a3⟩:=Gz wk.drew;have J:Below wk.heap.size wk X0:=by rw[<- a3];exact Zf (Qc _ _) 1
         have I:Hid (∀ wx,Below wk.heap.size wk wx->wx.cell? ⟨g,o+j,none⟩=some (.slice (some ⟨ga,oa,none⟩) n c')/\wx.cell? ⟨ga,oa+k*4,none⟩=some (.bool xn)/\wx.cell? ⟨ga,oa+k*4+1,none⟩=some (.slice xA xk xc)/\wx.cell? ⟨ga,oa+k*4+2,none⟩=some (.bool xm)/\wx.cell? ⟨ga,oa+k*4+3,none⟩=some (.slice xB xj xd)/\wx.cell? ⟨g,o+k,none⟩=some (.slice (some ⟨gb,ob,none⟩) n c2)/\wx.cell? ⟨gb,ob+j*4,none⟩=some (.bool yn)/\wx.cell? ⟨gb,ob+j*4+1,none⟩=some (.slice yA yk yc)/\wx.cell? ⟨gb,ob+j*4+2,none⟩=some (.bool ym)/\wx.cell? ⟨gb,ob+j*4+3,none⟩=some (.slice yB yj yd)):=Za (λwx hbx=>⟨Zb hbx c0,Zb hbx r0,Zb hbx r1,Zb hbx r2,Zb hbx r3,Zb hbx ck,Zb hbx s0,Zb hbx s1,Zb hbx s2,Zb hbx s3⟩);refine wp_heldS [] hmx I (by rw[a3];exact J) (λhxs=>?_);rw[a3];refine Zj5 14 [0,1,2,3,4,5,6,7,8,9,10,11,12,13] rfl Gi (I.out _ J) ?_
         iterate 14 (refine tkA ?_;try simp only[Qd,Zg7,Zgl,Zg1,Gr,Gq,Gp])
         refine tk0 ?_;obtain⟨z,hz⟩:∃ z,decide (Zi (qM rs) j k=Zi (qM rs) k j)=z:=⟨_,rfl⟩;refine wpAnyL_o 14 λK hK=>?_;go_simp;refine(Zjn xn xm yn ym xA xB yA yB xk xc xj xd yk yc yj yd _ _ X0 (hX.out.below J) (hY.out.below J) z hz).mono ?_;rintro e w5 ⟨rfl,ar⟩;have a1:=Gs J ar;refine hK.out _ _ (λ_=>I.out _ a1) ?_;clear hK K
         try simp only[Qd,Zg7,Zgl,Zg1]
         refine Zgm 1 [15] rfl Gi (I.out _ a1) ?_
         (refine tkA ?_;try simp only[Qd,Zg7,Zgl,Zg1,Gr,Gq,Gp])
         refine tk0 ?_;refine wpAnyL_fin ?_;have aK:Hid (Below wj.heap.size wj w5):=Za (Gs V a1);clear I hxs J a1 ar a3 r0 r1 r2 r3 s0 s1 s2 s3 ck c0 hX hY;cases z
         ·obtain rfl:E=8:=by
            rw[<- hE.out];refine hV.out.asym ?_;cases hb:Zhd (qM rs)with
            | false=>rfl
            | true=>exact absurd (symB_iff.1 hb j k (by unfold qM;rw[Qg,hl.out];exact a2) (by unfold qM;rw[Qg,hl.out];omega)) (of_decide_eq_false hz)
          replace hz:=Za hz;go_wp2_with fail;go_ret;exact⟨rfl,Gs cU aK.out⟩
         have eE:Hid (∀ b,b<k+1->Zi (qM rs) j b=Zi (qM rs) b j):=Za (λb hb=>by
           rcases Qh b k with h'|h';exact a8.out b h';obtain rfl:b=k:=Gk;exact of_decide_eq_true hz)
         replace hz:=Za hz;exact IW
def OfXR(rs:List RI)(ws:List Int)(X:Nat->Nat->Rat):Prop:=
 ofE rs ws=0->OfP rs ws rs.length (n0I rs) X/\Zg9 (Zi (Zbf (n0I rs) 0 0 (Zbe (Zc7 rs ws rs.length (n0I rs)) (n0I rs) (n0I rs) 0) false).1) X (n0I rs) (n0I rs+n0I rs)
theorem Zjv{rt:List RX}{Q:List (List Rat)}(h:Zes rt=Zir Q):qM rt=Q:=by
 rw[Zvy,h];unfold Zir;rw[List.map_map]
 have e:((λx:Nat × List (Nat × Bool × Rat)=>x.2.map λy=>y.2.2) ∘ λr:List Rat=>(r.length,r.map λq=>(Zqe q,true,q)))=id:=by
  funext r
  simp[Function.comp_def]
 rw[e,List.map_id]
section
variable{X:Nat->Nat->Rat}{m:Nat}
theorem Zim:(ofQ X m).length=m:=by simp[ofQ]
theorem Zlw{i:Nat}(hi:i<m):((ofQ X m)[i]?.getD []).length=m:=by
 unfold ofQ;rw[Qk,Qq hi];simp
theorem Zia{i j:Nat}(hi:i<m)(hj:j<m):Zi (ofQ X m) i j=X i (m+j)*Zbu:=by
 unfold ofQ Zi;exact Fe
theorem Zv9{rt:List RX}{D b e:Nat}(hsig:Zes rt=Zir (ofQ X m))(hD:0<D)(hDe:D<=pw e)(hB:∀ i j,i<m->j<m->BndQ (pw b) ((D:Nat)*(X i (m+j)*Zbu)))(h1:m<=6->(b+1)*m<300)(h2:m<=6->(b+1)*m+e<380):FacC rt:=λhV hs=>by
 have hq:=Zjv hsig
 have hl:rt.length=m:=by
  have h9:=congrArg List.length hsig;unfold Zes Zir at h9;rw[Qg,Qg,Zim]at h9;exact h9
 have h6:m<=6:=by have:=hV.facts.2.1;omega
 rw[hl];refine FacP.unif (D:=D) (b:=b) (e:=e) (by rw[hq,Zim]) Gk (λi hi=>by rw[hq];exact Zlw hi) (λi k hi hk=>symB_iff.1 hs i k (by rw[hq,Zim];exact hi) (by rw[hq,Zim];exact hk)) hD hDe (λi j hi=>?_) (h1 h6) (h2 h6);rcases Qh j m with h9|h9;rw[hq,Zia hi h9];exact hB i j hi h9
 have e0:Zi (qM rt) i j=0:=by
   unfold Zi;rw[Qf (by rw[hq,Zlw hi];exact h9)];rfl
 rw[e0];have e1:((D:Nat):Rat)*0=0:=by grind
 rw[e1];exact BndQ.zero
end
theorem Zsm{rs:List RI}{ws:List Int}(h:ofE rs ws=0):rs.any RI.long6=false/\Zcx rs (Qa (min rs.length 200) 0) ws=0/\Zap (n0I rs) (Za8 rs ws rs.length)≠0:=by
 cases hb:rs.any RI.long6 with
 | true=>rw[Zr1 hb]at h;exact absurd h Gj
 | false =>
  by_cases hE:Zcx rs (Qa (min rs.length 200) 0) ws=0
  ·refine⟨rfl,hE,λhd=>?_⟩
   rw[Zqa hb hE hd]at h;exact absurd h Gj
  rw[Zwe hb rfl hE]at h;exact absurd h hE
theorem Ztk:BndQ (pw 2) Zbu:=⟨1000000000000000000,rfl,by decide +kernel⟩
theorem FU{G:Prop}(h:G:=by
 rw[hz]
 have e2:((D:Nat):Rat)*((z:Rat)/((D:Nat):Rat))=(z:Rat):=by
  rw[Rat.div_def,<- Rat.mul_assoc,Rat.mul_comm ((D:Nat):Rat) (z:Rat),Rat.mul_assoc,Rat.mul_inv_cancel _ ep,Rat.mul_one]
 rw[<- Rat.mul_assoc,e2]):G:=h
theorem Zup{w:World}{A:Option Addr}{n c m k:Nat}{rs:List RI}{ws:List Int}(h:MIL w A n c rs)(hG:ModI rs n m k):∃ X,OfX rs ws X/\OfXR rs ws X/\∀ rt,Zes rt=Zir (ofQ X (n0I rs))->FacC rt:=by
 by_cases h0:ofE rs ws=0
 ·obtain⟨hb,hE,hd⟩:=Zsm h0
  obtain⟨p1,p2,p3,p4,p5,p6,p7⟩:=Zwj h hE;have u:rs.length=n:=h.1
  have o:n0I rs<=4:=by
   obtain⟨r,hr⟩:∃ r,rs[0]?=some r:=⟨_,Qe Gk⟩;have h1:=(hG.1 0 r p1 Gk hr).1;have h2:=p7 r (Ql hr);omega
  obtain⟨o1,o2,o3,o4,o5,o6,o7⟩:=Zv2 (rs:=rs) (rr:=Qa (min rs.length 200) 0) (ws:=ws) (n:=rs.length) (m:=n0I rs) Gk p4 hE
  have hr:(Zbf (n0I rs) 0 0 (Zbe (Zc7 rs ws rs.length (n0I rs)) (n0I rs) (n0I rs) 0) false).2.1=n0I rs:=by
   rcases Qh (Zbf (n0I rs) 0 0 (Zbe (Zc7 rs ws rs.length (n0I rs)) (n0I rs) (n0I rs) 0) false).2.1 (n0I rs)with h9|h9;exact absurd (o6 h9) hd;omega
  obtain⟨-,X,x1,x2,x3⟩:=o7 hr;refine⟨X,λ_=>⟨x3,x2⟩,λ_=>⟨x3,x1⟩,λrt hsig=>?_⟩;obtain⟨-,D,d1,d2,d3⟩:=x3;refine Zv9 (D:=D) (b:=22) (e:=20) hsig d1 (Qn d2 (Zbm Gk)) (λi j hi hj=>?_) (λ_=>by omega) (λ_=>by omega);obtain⟨z,hz,f⟩:=d3 j i hj hi
  have ep:((D:Nat):Rat)≠0:=λe=>by
   have:D=0:=by exact_mod_cast e
   omega
  have e:((D:Nat):Rat)*(X i (n0I rs+j)*Zbu)=(z:Rat)*Zbu:=by
   exact FU
  rw[e];refine(BndQ.mul (⟨z,rfl,f⟩:BndQ (pw (5*n0I rs)) (z:Rat)) Ztk).mono ?_;rw[<- Zc8];exact Zbm Gk
 refine⟨λ_ _=>0,λh9=>absurd h9 h0,λh9=>absurd h9 h0,λrt hsig=>?_⟩;refine Zv9 (D:=1) (b:=0) (e:=0) hsig Gj Gj (λi j _ _=>?_) (λ_=>by omega) (λ_=>by omega);have e:((1:Nat):Rat)*(0*Zbu)=0:=by grind
 rw[e];exact BndQ.zero
section
variable{rs:List RI}{ws:List Int}{n:Nat}
theorem Zk6(i j:Nat):Za8 rs ws n i j=Za8 rs ws n j i:=by
 unfold Za8;rw[Zw1]
end
section
variable{rs:List RI}{rr ws:List Int}{n m:Nat}
end
def bf(N:Nat->Nat->Rat)(m:Nat)(y z:Nat->Rat):Rat:=Zu m (λi=>y i*Zu m (λj=>N i j*z j))
section
variable{N:Nat->Nat->Rat}{m:Nat}
theorem bf_comm(hN:∀ i j,i<m->j<m->N i j=N j i)(y z:Nat->Rat):bf N m y z=bf N m z y:=by
 unfold bf
 rw[Zy (g:=λi=>Zu m (λj=>y i*N i j*z j)) (λi _=>by
  rw[QH,<- Zio];exact Zy λj _=>by grind),Zxu]
 refine Zy λj hj=>?_;rw[QH,<- Zio];exact Zy λi hi=>by rw[hN i j hi hj];grind
theorem bf_sub(hN:∀ i j,i<m->j<m->N i j=N j i)(y z:Nat->Rat):bf N m (λi=>y i-z i) (λi=>y i-z i)=bf N m y y-2*bf N m y z+bf N m z z:=by
 have h1:bf N m (λi=>y i-z i) (λi=>y i-z i)=Zu m (λi=>y i*Zu m (λj=>N i j*y j))-Zu m (λi=>y i*Zu m (λj=>N i j*z j))-(Zu m (λi=>z i*Zu m (λj=>N i j*y j))-Zu m (λi=>z i*Zu m (λj=>N i j*z j))):=by
  rw[<- Zkc,<- Zkc,<- Zkc];unfold bf;refine Zy λi _=>?_;rw[Zy (g:=λj=>N i j*y j-N i j*z j) (λj _=>by grind),Zkc]
  grind
 rw[h1];have h2:=bf_comm hN z y;unfold bf at *;rw[h2]
 grind
theorem Zz7(hN:∀ i j,i<m->j<m->N i j=N j i)(hpos:∀ y,0<=bf N m y y){y0:Nat->Rat}{k:Nat}(hk:k<m)(h0:∀ i,i<m->Zu m (λj=>N i j*y0 j)=if i=k then 1 else 0)(y:Nat->Rat):2*y k-bf N m y y<=y0 k/\bf N m y0 y0=y0 k:=by
 have h1:∀ z:Nat->Rat,bf N m z y0=z k:=λz=>by
  unfold bf;rw[Zge k hk (λi hi hne=>by rw[h0 i hi,Gw hne];grind),h0 k hk,Gx rfl]
  grind
 have h2:=hpos (λi=>y i-y0 i);rw[bf_sub hN,h1,h1]at h2;exact⟨by grind,h1 y0⟩
end
section
variable{rs:List RI}{ws:List Int}{n m:Nat}
theorem Zpu(y:Nat->Rat):∀ n,bf (Za8 rs ws n) m y y=Zu n (λr=>(Zer ws r:Rat)*(Zu m (λi=>(Za3 rs i r:Rat)*y i)*Zu m (λi=>(Za3 rs i r:Rat)*y i)))
 | 0=>by
  unfold bf;refine Ze1 λi _=>?_;rw[Ze1 λj _=>?_]
  ·grind
  show ((0:Int):Rat)*y j=0;rw[show ((0:Int):Rat)=0 from rfl];grind
 | n+1=>by
  show _=Zu n _+_;rw[<- Zpu y n];unfold bf
  have h1:∀ i j,Za8 rs ws (n+1) i j=Za8 rs ws n i j+(Zer ws n:Rat)*((Za3 rs i n:Rat)*(Za3 rs j n:Rat)):=λi j=>by
   unfold Za8;show ((Zce ws (Za3 rs i) (Za3 rs j) n+(ws[n]?.getD 0)*(Za3 rs i n*Za3 rs j n):Int):Rat)=_;rw[Rat.intCast_add,QM,QM];rfl
  have h2:∀ i,Zu m (λj=>Za8 rs ws (n+1) i j*y j)=Zu m (λj=>Za8 rs ws n i j*y j)+(Zer ws n:Rat)*(Za3 rs i n:Rat)*Zu m (λj=>(Za3 rs j n:Rat)*y j):=λi=>by
   rw[Zy (g:=λj=>Za8 rs ws n i j*y j+(Za3 rs j n:Rat)*y j*((Zer ws n:Rat)*(Za3 rs i n:Rat))) (λj _=>by rw[h1];grind),Zr9,Zio]
   grind
  rw[Zy (g:=λi=>y i*Zu m (λj=>Za8 rs ws n i j*y j)+(Za3 rs i n:Rat)*y i*((Zer ws n:Rat)*Zu m (λj=>(Za3 rs j n:Rat)*y j))) (λi _=>by rw[h2];grind),Zr9,Zio]
  grind
theorem Z1w(hw:∀ r,r<n->0<=Zer ws r)(y:Nat->Rat):0<=bf (Za8 rs ws n) m y y:=by
 rw[Zpu];refine Zr2 λr hr=>Qo (by exact_mod_cast hw r hr) ?_;rcases Rat.le_total (a:=0) (b:=Zu m (λi=>(Za3 rs i r:Rat)*y i))with h|h;exact Qo h h;have h3:0 <= - Zu m (λi=>(Za3 rs i r:Rat)*y i):=by grind
 have:=Qo h3 h3
 grind
theorem Zzg(hw:∀ r,r<n+1->0<=Zer ws r){k:Nat}(hk:k<m){y0 y1:Nat->Rat}(h0:∀ i,i<m->Zu m (λj=>Za8 rs ws n i j*y0 j)=if i=k then 1 else 0)(h1:∀ i,i<m->Zu m (λj=>Za8 rs ws (n+1) i j*y1 j)=if i=k then 1 else 0):y1 k<=y0 k:=by
 have a:=(Zz7 (N:=Za8 rs ws n) (λi j _ _=>Zk6 i j) (Z1w λr hr=>hw r Gk) hk h0 y1).1;have b:=(Zz7 (N:=Za8 rs ws (n+1)) (λi j _ _=>Zk6 i j) (Z1w hw) hk h1 y1).2
 have c:bf (Za8 rs ws n) m y1 y1<=bf (Za8 rs ws (n+1)) m y1 y1:=by
  rw[Zpu y1 (n+1)];show _<=Zu n _+_;rw[<- Zpu y1 n]
  have h2:0<=(Zer ws n:Rat)*(Zu m (λi=>(Za3 rs i n:Rat)*y1 i)*Zu m (λi=>(Za3 rs i n:Rat)*y1 i)):=by
   refine Qo (by exact_mod_cast hw n Gk) ?_;rcases Rat.le_total (a:=0) (b:=Zu m (λi=>(Za3 rs i n:Rat)*y1 i))with h|h;exact Qo h h;have h3:0 <= - Zu m (λi=>(Za3 rs i n:Rat)*y1 i):=by grind
   have:=Qo h3 h3
   grind
  grind
 grind
end
section
variable{rs:List RI}{ws:List Int}{n m:Nat}{X:Nat->Nat->Rat}
theorem covS_ne:Zbu≠0:=by decide +kernel
theorem Z1s:0<Zbu:=by decide +kernel
theorem of_symm{rt:List RX}(hsig:Zes rt=Zir (ofQ X m))(h0:Zbg rt=0){i j:Nat}(hi:i<m)(hj:j<m):X i (m+j)=X j (m+i):=by
 have hs:=symB_iff.1 (Zi4 h0).2.1 i j (by rw[Zjv hsig,Zim];exact hi) (by rw[Zjv hsig,Zim];exact hj);rw[Zjv hsig,Zia hi hj,Zia hj hi]at hs;have h1:=covS_ne;have e:(X i (m+j)-X j (m+i))*Zbu=0:=by grind
 rcases Rat.mul_eq_zero.1 e with h|h
 ·grind
 exact absurd h h1
theorem of_left(hP:OfP rs ws n m X)(hs:∀ i j,i<m->j<m->X i (m+j)=X j (m+i)){i k:Nat}(hi:i<m)(hk:k<m):Zu m (λj=>X i (m+j)*Zbu*Za8 rs ws n j k)=if i=k then Zbu else 0:=by
 rw[Zy (g:=λj=>Za8 rs ws n k j*X j (m+i)*Zbu) (λj hj=>by rw[hs i j hi hj,Zk6 j k];grind),Zio,hP.1 i k hi hk];by_cases h:k=i;rw[Gx h,Gx h.symm];grind;rw[Gw h,Gw (λe=>h e.symm)];grind
theorem Z08(hP:OfP rs ws n m X)(hm:m<=4):∃ D,0<D/\D<=pw 20/\∀ i j,i<m->j<m->BndQ (pw 22) ((D:Nat)*(X i (m+j)*Zbu)):=by
 obtain⟨-,D,d1,d2,d3⟩:=hP;refine⟨D,d1,Qn d2 (Zbm Gk),λi j hi hj=>?_⟩;obtain⟨z,hz,f⟩:=d3 j i hj hi
 have ep:((D:Nat):Rat)≠0:=λe=>by
  have:D=0:=by exact_mod_cast e
  omega
 have e:((D:Nat):Rat)*(X i (m+j)*Zbu)=(z:Rat)*Zbu:=by
  exact FU
 rw[e];have h1:BndQ (pw (5*m)) (z:Rat):=⟨z,rfl,f⟩;refine(h1.mul Ztk).mono ?_;rw[<- Zc8];exact Zbm Gk
theorem Zqk{D B:Nat}{q:Rat}(hD:0<D)(hD2:D<=pw 900)(hB:B<=pw 900)(h:BndQ B ((D:Nat)*q)):Sm q:=by
 obtain⟨h1,h2⟩:=Zw0 hD h;exact⟨QI (Qn h1 hB) (Zdj Gj),QI (Qn h2 hD2) (Zdj Gj)⟩
theorem Zwm{rr:List Int}(hP:OfP rs ws n m X)(hm:m<=4)(hn:n<=200)(hE:Zcx rs rr ws=0):(∀ i j,i<m->j<m->Sm (X i (m+j)*Zbu))/\(∀ i j,Sm (Za8 rs ws n i j))/\∀ i k t,i<m->t<=m->Sm (Zu t (λj=>X i (m+j)*Zbu*Za8 rs ws n j k)):=by
 obtain⟨D,d1,d2,d3⟩:=Z08 hP hm;have p1:pw 20<=pw 900:=Zbm Gj;refine⟨λi j hi hj=>Zqk d1 (Qn d2 p1) (Zbm Gj) (d3 i j hi hj),λi j=>?_,λi k t hi ht=>?_⟩
 ·have h1:=Zf9 hn hE (n:=n) i j
  have h2:((1:Nat):Rat)*Za8 rs ws n i j=Za8 rs ws n i j:=by
   show (1:Rat)*_=_;rw[Rat.one_mul]
  exact Zqk (D:=1) Gj (Zb4 900) (Zbm (a:=4) Gj) (by rw[h2];exact h1)
 have h1:BndQ (t*(pw 22*pw 4)) (Zu t (λj=>((D:Nat):Rat)*(X i (m+j)*Zbu)*Za8 rs ws n j k)):=Znr λj hj=>(d3 i j hi Gk).mul (Zf9 hn hE j k)
 have e:Zu t (λj=>((D:Nat):Rat)*(X i (m+j)*Zbu)*Za8 rs ws n j k)=((D:Nat):Rat)*Zu t (λj=>X i (m+j)*Zbu*Za8 rs ws n j k):=by
  rw[QH,<- Zio];exact Zy λj _=>by grind
 rw[e]at h1;refine Zqk d1 (Qn d2 p1) ?_ h1;rw[<- Zc8];have h3:pw 27=4294967296*pw 26:=Za2 26;have h4:t*pw (22+4)<=4294967296*pw 26:=Nat.mul_le_mul Gk (Qb _);exact Qn h4 (by rw[<- h3];exact Zbm Gj)
theorem Zo1{ws ws':List Int}{a b a' b':Nat->Int}:∀ {n:Nat},(∀ r,r<n->ws[r]?.getD 0=ws'[r]?.getD 0/\a r=a' r/\b r=b' r)->Zce ws a b n=Zce ws' a' b' n
 | 0,_=>rfl
 | n+1,h=>by
  obtain⟨h1,h2,h3⟩:=h n Gk;simp only[Zce];rw[Zo1 (λr hr=>h r Gk),h1,h2,h3]
theorem Zpg{p r k:Nat}(h:r<p):Za3 (rs.take p) k r=Za3 rs k r:=by
 unfold Za3;rw[Qj,Gx h]
theorem Zyq{p:Nat}:Za8 (rs.take p) (ws.take p) p=Za8 rs ws p:=by
 funext i j
 unfold Za8;congr 1;exact Zo1 λr hr=>⟨by rw[Qj,Gx hr],Zpg hr,Zpg hr⟩
theorem Zsz{p:Nat}(h:0<p):n0I (rs.take p)=n0I rs:=by
 unfold n0I;rw[Qj,Gx h]
theorem Z0j{rr:List Int}{q:Nat}(hE:Zcx rs rr ws=0)(h1:(rs.take q).length=q)(h2:(ws.take q).length=q)(h0:0<q):Zcx (rs.take q) (Qa (min (rs.take q).length 200) 0) (ws.take q)=0:=by
 obtain⟨f1,f2,f3,f4,f5,f6,f7,f8⟩:=Zdr hE;have f:q<=200:=by rw[Qp]at h1;omega
 have e:∀ {least:Int} {l:List Int} {q:Nat},Zdq least l=false->Zdq least (l.take q)=false:=λ{least l q} h=>by
  unfold Zdq at h ⊢;rw[Qs]at h ⊢;exact λx hx=>h x (Qm hx)
 refine Zwt ?_ ?_
 ·unfold Zd9
  rw[Bool.or_eq_false_iff];refine⟨Gu Gk,?_⟩;rw[Qs];intro r hr;have:=f2 r (Qm hr);unfold RI.long;simp;omega
 unfold Zn9;rw[Zsz h0,e f6,h1,h2,Nat.min_eq_left f]
 have hz:Zdq (-1099511627776) (Qa q 0)=false:=by
  exact Ck
 rw[hz]
 have hr:(rs.take q).all (Zg3 (n0I rs))=true:=by
  rw[QL];intro r hr;obtain⟨e1,e2⟩:=f8 r (Qm hr);unfold Zg3;rw[e2,Gv e1];rfl
 rw[hr];simp[f3]
theorem Z1l{rr:List Int}{X0:Nat->Nat->Rat}(hE:Zcx rs rr ws=0)(h0:OfP (rs.take n) (ws.take n) n m X0)(h1:OfP rs ws (n+1) m X){k:Nat}(hk:k<m):X k (m+k)*Zbu<=X0 k (m+k)*Zbu:=by
 refine Rat.mul_le_mul_of_nonneg_right ?_ (Rat.le_of_lt Z1s);obtain⟨f1,f2,f3,f4,f5,f6,f7,f8⟩:=Zdr hE
 have hw:∀ r,r<n+1->0<=Zer ws r:=λr _=>by
  unfold Zer;rcases Qh r ws.length with h|h
  ·rw[Qe h,Qu]
   unfold Zdq at f6;rw[Qs]at f6;have h2:=f6 _ (List.getElem_mem h);unfold Zho at h2;simp at h2;omega
  rw[Qf h];exact Int.le_refl _
 have h2:=h0.1;rw[Zyq]at h2;exact Zzg (y0:=λj=>X0 j (m+k)) (y1:=λj=>X j (m+k)) hw hk (λi hi=>h2 k i hk hi) (λi hi=>h1.1 k i hk hi)
end
section
variable{w:World}{A:Option Addr}{n c:Nat}
theorem MIL.takeP{rs:List RI}(h:MIL w A n c rs){p c':Nat}(hp:p<=n)(hc:p<=c')(hc2:c'<=maxLen):MIL w A p c' (rs.take p):=by
 obtain⟨h1,h2,h3,h4,h5⟩:=h;refine⟨by rw[Qp];omega,hc,hc2,λr hr=>h4 r (Qm hr),λhn=>?_⟩;obtain⟨g,o,e,f⟩:=h5 Gk;refine⟨g,o,e,λk r hr=>f k r ?_⟩;rw[Qj]at hr
 split at hr
 exact hr;cases hr
theorem LimI.takeP{l:List Int}(h:LimI w A n c l){p c':Nat}(hp:p<=n)(hc:p<=c')(hc2:c'<=maxLen):LimI w A p c' (l.take p):=by
 obtain⟨h1,h2,h3,h4,h5⟩:=h;refine⟨by rw[Qp];omega,hc,hc2,λx hx=>h4 x (Qm hx),λhn=>?_⟩;obtain⟨b,o,e,f⟩:=h5 Gk;refine⟨b,o,e,λj hj=>?_⟩;rw[f j Gk,Qj,Gx hj]
theorem ModI.takeP{rs:List RI}{m k:Nat}(h:ModI rs n m k){p:Nat}(hp:p<=n)(h12:n<=12):ModI (rs.take p) p m k:=by
 refine⟨λj r hj h210 hr=>?_,by omega,by omega,h.2.2.2.1,h.2.2.2.2⟩;rw[Qj,Gx hj]at hr;exact h.1 j r Gk h210 hr
end
theorem Zhn(x y:Int)(w:World)(hx1:-9223372036854775808<=x)(hx2:x<=9223372036854775807)(h0:0<y)(hy:y<=9223372036854775807) :
    Calls Tryz.prog 18 #[.int .i64 x,.int .i64 y] w (Zdn w (Rat.divInt x y)):=by
 obtain⟨W0,U,C,q0,s0⟩:=Zak w 41 #[.bool false,.slice none 0 0,.bool false,.slice none 0 0];obtain⟨gR,f⟩:=Gz w.heap.size;rw[f]at q0;go_in;go_wp2_with fail;(try rw[U]);(try rw[f]);rw[f]at C s0;refine(rOf_pos x y W0 hx1 hx2 h0 hy).mono ?_;rintro e w1 ⟨J,pn,pA,pk,pc,pm,pB,pj,pd,rfl,hf⟩;obtain⟨g1,u⟩:=Gz w1.heap.size;obtain⟨V1,O,qv,I⟩:=Zaw (w:=w1) 41 #[.bool pn,.slice pA pk pc,.bool pm,.slice pB pj pd];rw[u]at qv;have h:=Gs J I;have q1:=Zc h q0;have T:=Za (hf.below I);obtain⟨v0,v1,v2,v3,-⟩:=qv.four;obtain⟨c0,c1,c2,c3,z0,z1,z2,z3⟩:=q1.four;clear hf;replace f:=Za f;go_wp2_with fail;(try rw[u]);(try rw[O]);obtain⟨W5,V,q5,o,s5⟩:=Zrq pn pA pk pc pm pB pj pd q1;go_wp2_with fail;(try rw[V]);obtain⟨r0,r1,r2,r3,-⟩:=q5.four;refine bodyPost_ret (v:=.agg #[.bool pn,.slice pA pk pc,.bool pm,.slice pB pj pd]) (by simp[results,Tryz.results18,go_sem,r0,r1,r2,r3]) rfl ?_;refine⟨?_,_,_,_,_,_,_,_,_,rfl,T.out.keptV o q1 (Zeq _ _ _ _ _ _ _ _)⟩;rw[f.out];exact C.trans ((h.mono Gk).trans (o.to_below (λk e=>by omega) (by have:=h.size;omega)))
theorem Zl7(A:Option Addr)(n c:Nat)(l:List Int)(w:World)(h:LimI w A n c l)(hn9:n<=900) :
    Calls Tryz.prog 36 #[.slice A n c] w λe w'=>∃ v,e=.returned v/\Below w.heap.size w w'/\OwnF 41 w' w.heap.size v (l.map λ(z:Int)=>(z:Rat)):=by
 obtain⟨iF,hi,a5,a7,a9⟩:=info_parts Zfl;have hl:=Za h.1;have a4:=h.2.2.1;unfold maxLen at a4;have b4:=h.2.1;replace h:=Za h;go_in;go_wp2_with fail
 go_loopg [3,4] n (λk ov iv wr=>∃ i:Nat,i+k=n/\iv=.int .i64 i/\Below w.heap.size w wr/\OwnF 41 wr w.heap.size ov ((l.map λ(z:Int)=>(z:Rat)).take i))
 case atStart=>exact⟨0,by omega,rfl,Qc _ _,OwnF.nil _ _ _⟩
 case round =>
  obtain⟨i,b3,rfl,hB,hO⟩:=hrel;cases gk with
  | zero =>
   obtain rfl:i=n:=Gk;have t1:decide ((i:Int)<(i:Int))=false:=Gh;replace hO:=Za hO;go_wp2_with fail;go_ret;refine⟨_,rfl,hB,?_⟩;have h1:=hO.out;rw[QF (by rw[Qg,hl.out];exact Qb _)]at h1;exact h1
  | succ k' =>
   obtain rfl:k'=n-(i+1):=Gk;have C:i<n:=Gk;have t1:decide ((i:Int)<(n:Int))=true:=Gv Gk;have bi:(i:Int)<(n:Int):=Gk;have hq:=h.out.below hB;have hz:=Zkl hq.2.2.2.1 i;obtain⟨g,o,rfl,hc⟩:=hq.2.2.2.2 Gk;have k0:=hc i C;have J:=hz;unfold I64 at J;obtain⟨z,f⟩:=Gz (l[i]?.getD 0);rw[f]at k0 J;replace hO:=Za hO;clear hc hq;go_wp2_with fail;refine(Zhn z 1 wr Gk Gk Gj Gj).mono ?_;rintro e w3 ⟨a2,na,B1,m1,d1,nb,B2,m2,d2,rfl,hf⟩;rw[Zib]at hf;have hs:=hB.size;have u:((l.map λ(z:Int)=>(z:Rat)).take i).length+1<=1000:=by rw[Qp,Qg];omega
   have b1:Hid ((l.map λ(z:Int)=>(z:Rat)).take i ++ [(z:Rat)]=(l.map λ(z:Int)=>(z:Rat)).take (i+1)):=Za (by
    rw[QK,Qk,Qe (l:=l) (i:=i) (by rw[hl.out];exact C)];rw[Qe (l:=l) (i:=i) (by rw[hl.out];exact C)]at f;simp only[Qu]at f;rw[f];rfl)
   obtain⟨gy,O⟩:=Gz w3.heap.size;obtain⟨Y1,y⟩:=Gz (w3.alloc (.cells #[.bool na,.slice B1 m1 d1,.bool nb,.slice B2 m2 d2] 41));have a0:Below w3.heap.size w3 Y1:=by rw[<- y];exact(Qc _ _).alloc (Qb _) _
   have a3:Blk Y1 gy 41 #[.bool na,.slice B1 m1 d1,.bool nb,.slice B2 m2 d2]:=by rw[<- y,<- O];exact Qr _ _ _
   have a6:Fr Y1 na B1 m1 d1 nb B2 m2 d2 (z:Rat):=hf.below a0;have a1:=Gs a2 a0;have U:=hO.out.kept a1;have V:=hB.trans (a1.mono hs);have T:=V.size;replace u:=Za u;clear hf f hz J;go_wp2_with ((try rw[y]);(try rw[O]);at_builtin;refine Zds _ rfl (.tmp 11) (.tmp 17) 35 rfl w.heap.size 41 iF Tryz.underlying35 hi a5 a7 a9 _ _ rfl U _ (some ⟨gy,0,none⟩) 1 1 [⟨na,B1,m1,d1,nb,B2,m2,d2,(z:Rat)⟩] rfl (Zcw _ a3) rfl (by intro e he;rw[Qz]at he;subst he;exact a6) u.out T ?_;intro v2 w5 I b0 b2);have a8:=V.grown b0 T (λk hk=>U.row_ge k hk);simp only[Qt,Qx]at I;rw[b1.out]at I
   go_roundg (n-(i+1))
   case measure=>omega
   case rel=>exact⟨i+1,by omega,by go_num,a8,I⟩
