/- The reference's GreatSystem. Numbers with a common -/
import Derived.Deep.LoopGhost
import Derived.Lib.AppendZeros
import Derived.Test.YthappeninglakaaGreatZa19
set_option maxRecDepth 100000
set_option maxHeartbeats 8000000
set_option linter.unusedSimpArgs false
set_option linter.unusedVariables false
namespace Go.Proofs.YthappeninglakaaGreat
open Go.RowKit
open Below renaming refl→Qa
open Nat renaming le_refl→Qb,le_trans→Qv
open Act renaming put→Qc
open List renaming length_map→Qd,getElem?_map→Qe,map_nil→Qf,map_cons→Qg,range→Qh,length_range→Qi,length_replicate→Qj,not_mem_nil→Qk,getElem?_range→Ql,mem_cons→Qm,getElem?_append_right→Qn,length_cons→Qo,nil_append→Qp,replicate→Qq,mem_of_getElem?→Qt,append_toArray→Qu,size_toArray→Qw,push_toArray→Qx,length→Qy,cons_append→Qz,length_nil→QA,append_nil→QB
open _root_.Array renaming replicate_succ→Qr,replicate_zero→Qs
open Blk renaming new→QC
open Kept renaming refl→QD
attribute [local go_sem] Zi
def ModI(rs:List RI)(n m k:Nat):Prop:=(∀ (j:Nat) (r:RI),j<n->j<210->rs[j]?=some r->(r.n<=4 \/ 12<r.n)/\r.n<=15)/\(n<=12 \/ 200<n)/\n<=210/\m<=300/\k<=300
def CD(D M:Nat)(q:Rat):Prop:=∃ z:Int,q=(z:Rat)/(D:Rat)/\z.natAbs<=M
section
variable{D M N:Nat}{p q:Rat}
theorem CD.mono(h:CD D M q)(hM:M<=N):CD D N q:=by
 obtain⟨z,e,hz⟩:=h;exact⟨z,e,Qv hz hM⟩
end
theorem Zx9{rs:List RX}(h:sqE rs=0):Zg1 rs=0/\rs.length=n0R rs:=by
 unfold sqE at h
 split at h
 ·rename_i h1
  split at h
  exact⟨h1,by assumption⟩;exact absurd h Gj
 rename_i h1;exact absurd h h1
section
variable{k n m:Nat}{Q:List (List Rat)}
end
section
variable{A:Option Addr}{n c:Nat}{rs:List RX}{w:World}
end
open Go.RowKit Go.Shelf
attribute [local go_sem] Oper.semAt_some
theorem Zff(z:Int):Rat.divInt z 1=(z:Rat):=by
 exact FG
def Zbq(B0:Nat)(q:Rat)(fr ca mv x0 x1 al as_:Nat)(i:Nat)(v:Value)(w:World):Prop:=
 if i=fr then ∃ A n c,v=.agg #[.bool false,.slice A n c]/\Wd w false A n c 1 else Za0 B0 q ca mv x0 x1 al as_ i v w
theorem Zhv{B0:Nat}{q:Rat}{fr ca mv x0 x1 al as_ i:Nat}{v:Value}{w w':World}(hb:Below w.heap.size w w')(h:Zbq B0 q fr ca mv x0 x1 al as_ i v w):Zbq B0 q fr ca mv x0 x1 al as_ i v w':=by
 unfold Zbq at h ⊢
 split at h
 ·rename_i h1;rw[Gx h1]
  obtain⟨A,n,c,e,hf⟩:=h;exact⟨A,n,c,e,hf.below hb⟩
 rename_i h1;rw[Gw h1];exact Zhm hb h
theorem Zkz{C m:Nat}:∀ (f c r:Nat) (Z:List (List Int)) (ng:Bool) (last:Int),okZ C m f c r Z last->BdZ C m (Zas f c r Z ng last).1
 | 0,_,_,_,_,_,h=>h.1
 | f+1,c,r,Z,ng,last,h=>by
  by_cases h0:r=Z.length;rw[Zny h0];exact(Zzl h).1;obtain⟨q,hq⟩:∃ q,Zbt (λi=>Zaf Z i c == 0) Z.length Z.length r=q:=⟨_,rfl⟩;by_cases hn:q=Z.length;rw[Zmy h0 hq hn];exact Zkz f _ _ _ _ _ (Zs4 h h0 hq hn);rw[Zne h0 hq hn];exact Zkz f _ _ _ _ _ (Zs1 h h0 hq hn)
theorem Zw9{X:Nat->Nat->Rat}{n m k:Nat}(h:k<n):(Zjz X n m).drop (n-(k+1))=((Qh (m-n)).map λc=>X (n-1-k) (n+c))::(Zjz X n m).drop (n-k):=by
 unfold Zjz;have hl:n-(k+1)<((Qh n).map λi=>(Qh (m-n)).map λc=>X i (n+c)).length:=by rw[Qd,Qi];omega
 rw[List.drop_eq_getElem_cons hl,show n-(k+1)+1=n-k by omega];congr 1;rw[List.getElem_map,List.getElem_range,show n-(k+1)=n-1-k by omega]
theorem Zzt{X:Nat->Nat->Rat}{n m j t:Nat}(hj:j<n)(ht:t<m-n){L:List RF}{i:Nat}(hL:L.map RF.q=(Zjz X n m).drop (i+1))(hij:i<j){y:RF}(hy:L[j-(i+1)]?=some y):y.q.length=m-n/\y.q[t]?.getD 0=X j (n+t):=by
 have h1:(L.map RF.q)[j-(i+1)]?=some y.q:=by rw[Qe,hy];rfl
 rw[hL,List.getElem?_drop,show i+1+(j-(i+1))=j by omega]at h1;unfold Zjz at h1;rw[Qe,Ql hj]at h1;simp only[Option.map_some,Option.some.injEq]at h1;rw[<- h1];refine⟨by simp,?_⟩;rw[Qe,Ql ht];rfl
theorem Cs{G:Prop}(h:G:=by
 rcases hk with rfl|hk;exact ff;obtain⟨s,hs,rfl⟩:=List.mem_map.1 hk;exact fg s hs):G:=h
theorem Fv{G:Prop}(h:G:=by
 rintro e w5 ⟨ao,ce,A5,k5,c5,dX,B5,m5,d5,rfl,ar⟩;rw[Zff]at ar;exact hK.out _ _ ⟨_,rfl,(by simp only[Zbq,Za0];exact⟨_,_,_,_,_,_,_,_,rfl,ar⟩),ao,trivial⟩):G:=h
theorem ED{G:Prop}(h:G:=by
 intro ν wx hb hP;refine Zn (i:=9) rfl (λK hK=>?_);go_simp;exact hK.out _ _ ⟨_,rfl,(by simp only[Zbq,Za0];exact⟨_,rfl,hb.size,Blk.new _ _ _⟩),(Below.refl _ _).alloc (Nat.le_refl _) _,trivial⟩):G:=h
theorem EN{G:Prop}(h:G:=by
 simp only[Zbq,Za0]at h0;obtain⟨ce,A5,k5,c5,dX,B5,m5,d5,hν,ar⟩:=h0;rw[hν];refine Zn (i:=7) rfl (λK hK=>?_);go_simp;exact hK.out _ _ ⟨_,rfl,(by simp only[Zbq,Za0];exact⟨_,_,_,_,_,_,_,_,rfl,ar⟩),Below.refl _ _,trivial⟩):G:=h
theorem ET{G:Prop}(h:G:=by
 intro ν wx hb hP;refine Zn (i:=4) rfl (λK hK=>?_);go_simp;refine(Zb3 1 wx Gj Gj).mono ?_;rintro e w5 ⟨ao,d0,D0,e0,f0,rfl,hN⟩;obtain rfl:d0=false:=hN.1;exact hK.out _ _ ⟨_,rfl,(by simp only[Zbq];exact⟨_,_,_,rfl,hN⟩),ao,trivial⟩):G:=h
theorem Eb{G:Prop}(h:G:=by
 simp only[Zbq,Za0]at h0;obtain⟨ce,A5,k5,c5,dX,B5,m5,d5,hν,ar⟩:=h0;rw[hν];refine Zn (i:=6) rfl (λK hK=>?_);go_simp;refine hK.out _ _ ⟨_,rfl,(by simp only[Zbq,Za0];exact⟨_,_,_,_,_,_,_,_,rfl,ar⟩),Below.refl _ _,?_⟩;exact⟨_,.int .i64 0,rfl,Or.inl ⟨by kernel_rfl,λW2 _=>by go_simp⟩,by simp[Zbq,Za0],trivial⟩):G:=h
theorem Zzu(A:Option Addr)(n c m:Nat)(Q:List (List Rat))(w:World)(h:MFL w A n c Q)(hn0:0<n)(hn9:n<=900)(hnm:n<m)(hm9:m<=900)(hm:∀ i,i<n->(Q[i]?.getD []).length=m)(i4:okZ (pw 200) m n 0 0 (Z8 Q) 1)(hfin:Zr8 Q n m)(hrk:(Zas n 0 0 (Z8 Q) false 1).2.1=n)
    (X:Nat->Nat->Rat) (hX:Zha (λi j=>(Zaf (Zas n 0 0 (Z8 Q) false 1).1 i j:Rat)) X n m) :
    Calls Tryz.prog 82 #[.slice A n c,.int .i64 n] w λe w'=>∃ gO L,e=.returned (.tuple #[.slice (some ⟨gO,0,none⟩) n n,.bool true])/\Below w.heap.size w w'/\w.heap.size<=gO/\MatB 35 41 w' gO L/\L.map RF.q=Zjz X n m/\∀ r ∈ L,w.heap.size<=r.g:=by
 have hmx:=Gt;have υ9:(150:TypeId)≠39:=Gj;have g2:(35:TypeId)≠41:=Gj;have l6:Hid (NoT 3 25 149 150 39 41):=Zd (by unfold NoT;decide);have z5:Hid (NoT 3 25 149 150 39 35):=Zd (by unfold NoT;decide);obtain⟨iF,hi,y8,A1,x6⟩:=info_parts Ze1;obtain⟨iS,ki,x8,w0,y4⟩:=info_parts Ziq;have v5:=Zd h.1;obtain⟨W0,x5,g5,q0,s0⟩:=Zao w 3 #[.int .i64 n];replace h:=h.below g5;obtain⟨FIN,e5⟩:=Gz (Zas n 0 0 (Z8 Q) false 1);rw[e5]at hrk hX;obtain⟨E',rk,ng,la⟩:=FIN;have υ5:rk=n:=hrk;subst υ5;replace hX:Zha (λi j=>(Zaf E' i j:Rat)) X rk m:=hX;obtain⟨n,hn⟩:∃ n,n=rk:=⟨_,rfl⟩;subst hn;replace e5:=Zd e5;replace i4:=Zd i4;replace hX:=Zd hX;refine(callsIn_wide (n:=9)).1 ?_;refine callsIn_of_wp_marks Tryz.func82 rfl trivial ?_ rfl;simp only[Tryz.ntmps82,Qw,Qo,QA,Nat.reduceAdd,Nat.reduceSub,Qr,Qs,Qx,Qu,Qp,Qz];refine wpIn_wide.2 ?_;go_wp2_with fail;refine(Zpy A n c m Q W0 h hn9 hm Gk hm9 hfin.1 hfin.2).mono ?_;rintro e w1 ⟨v,vb,L,rfl,i3,hM,hq,hP,k4⟩;obtain⟨vA,vc,rfl,q5,υ4,-⟩:=hP.poly_at;rw[Qd,Qi]at q5 hP k4 ⊢;unfold maxLen at υ4;have d8:=congrArg Qy hq;rw[Qd]at d8;unfold Z8 at d8;rw[Qd,v5.out]at d8;obtain⟨go,cap,rfl,i9,p0,ff,m4,fg⟩:=hM.mat υ9 (λe=>by rw[e]at d8;simp at d8;omega);rw[d8]at i9 ⊢;obtain⟨g3,l9⟩:=Gz w1.heap.size
 obtain⟨V,hV,c9,qv,kW,kB,sV⟩:=Zq 152 #[.slice (some ⟨go,0,none⟩) n cap,.slice vA n vc] (Qa w1.heap.size w1) (Qb _);have r7:=m4.below c9;have g9:=(Ze i3 q0).below c9 (Ze i3 q0).lt;rw[l9]at qv;obtain⟨x0,x1,-,-⟩:=qv.two;have nV:=g9.cell 0;simp at nV;replace d8:=Zd d8;have q1:Hid (w.heap.size<W0.heap.size):=Zd Gk;have h7:Hid (Below W0.heap.size W0 V):=Zd (Gs i3 c9)
 have e3:∀ k,(k=go \/ k ∈ L.map RZ.g)->W0.heap.size<=k:=λk hk=>by
  exact Cs
 have g1:∀ k,(k=go \/ k ∈ L.map RZ.g)->k<g3:=λk hk=>by
  obtain⟨t,cs,hb,-⟩:=m4.boxes k hk;rw[<- l9];exact hb.lt
 replace e3:=Zd e3;replace g1:=Zd g1;replace qv:=Zd qv;replace g9:=Zd g9;clear hM m4 kW kB sV k4 hP h x5 ff fg q0 i3 c9;go_wp2_with fail;(try rw[l9]);(try rw[hV]);refine(Ziv go n cap L (.slice vA n vc) m n V r7 d8.out hn0 hn9 i9 p0 Gk hm9 (by rw[hq];exact i4.out)).mono ?_;rw[hq,e5.out];rintro e w2 ⟨L2,ln,lA,lk,lc,rfl,y3,l2,-,g0,q7,i8⟩;replace g0:L2.map RZ.q=E':=g0;clear hV x0 x1 nV;have l1:¬ (g3=go \/ g3 ∈ L.map RZ.g):=λh=>by have:=g1.out g3 h;omega
 have q3:=i8.blk qv.out l1;have l3:=i8.blk g9.out (λh=>by have:=e3.out _ h;have:=q1.out;omega);have m1:Below W0.heap.size W0 w2:=h7.out.trans (i8.to_below e3.out h7.out.size);obtain⟨g6,x7⟩:=Gz w2.heap.size;obtain⟨V2,x9,e4,v8,kW,kB,sV⟩:=Zq 39 #[.bool ln,.slice lA lk lc] (Qa w2.heap.size w2) (Qb _);have b7:=q3.below e4 q3.lt;have b8:=l3.below e4 l3.lt;have h6:=q7.below e4;have e9:=Zd (Gs m1 e4);obtain⟨y0,y1,-,-⟩:=b7.two;have z9:=b8.cell 0;simp at z9;have t1:decide ((n:Int)<(n:Int))=false:=Gh;obtain⟨gO,o3⟩:=Gz V2.heap.size;obtain⟨V3,n0⟩:=Gz (V2.alloc (.cells (Z7 (Qq n Za8)) 35));have b4:Below V2.heap.size V2 V3:=by rw[<- n0];exact(Qa _ _).alloc (Qb _) _
 have l5:Blk V3 gO 35 (Z7 (Qq n Za8)):=by rw[<- n0,<- o3];exact QC _ _ _
 obtain⟨gX,r8⟩:=Gz V3.heap.size;obtain⟨V4,z8,f5,l4,-,-,s4⟩:=Zq 25 #[.slice (some ⟨gO,0,none⟩) n n] (Qa V3.heap.size V3) (Qb _);rw[r8]at l4;have w6:=Zqt (P:=Tryz.prog) 25 35 Tryz.underlying25 ki x8 w0 y4 (n:Int) n rfl Gk V2;rw[n0,o3]at w6;have k9:=(b7.below b4 b7.lt).below f5 (b7.below b4 b7.lt).lt;have i0:=(b8.below b4 b8.lt).below f5 (b8.below b4 b8.lt).lt;have k7:=(h6.below b4).below f5;have q8:=l5.below f5 l5.lt;obtain⟨z0,z1,-,-⟩:=k9.two;have z3:=i0.cell 0;simp at z3;have bc:(n:Int)<=(cap:Int):=Gk;obtain⟨gB,υ8⟩:=Gz V4.heap.size;obtain⟨V5,l8⟩:∃ Y,V4.alloc (.cells #[.slice (some ⟨go,0,none⟩) n cap] 149)=Y:=⟨_,rfl⟩;have ao:Below V4.heap.size V4 V5:=by rw[<- l8];exact(Qa _ _).alloc (Qb _) _
 have g8:EnvK 3 25 149 150 39 V5 w.heap.size gX gO gB go n (some ⟨go,0,none⟩) cap L2:=⟨Ze ao i0,Ze ao l4,by rw[<- l8,<- υ8];exact QC _ _ _,k7.below ao⟩;have o1:OutK 35 41 V5 W0.heap.size gO n []:=⟨by rw[Qf,QB];exact Ze ao q8,λr hr=>(by cases hr),List.nodup_nil⟩
 have J:Below W0.heap.size W0 V5:=by
  have hs:=e9.out.size;exact e9.out.trans (((Gs b4 f5).trans (ao.mono (Gs b4 f5).size)).mono hs)
 have w7:W0.heap.size<=gO:=by rw[<- o3];exact e9.out.size
 replace g8:=Zd g8;replace o1:=Zd o1;replace J:=Zd J;replace h6:=Zd h6;clear r7 i8 m1 y3 q3 l3 kW kB sV e3 g1 e4 k7 b4 f5 ao l5 q8 b7 b8 q7 l4 v8 k9 i0 l1 g9 qv h7;go_wp2_with fail;(try rw[x7]);(try rw[x9]);(try rw[r8]);(try rw[z8]);refine(Zyu (some ⟨go,0,none⟩) n cap V4).mono ?_;rintro e w5 ⟨rfl,p8⟩;rw[l8]at p8;subst p8;rw[υ8];go_wp2_with fail;refine(wpIn_wide (n:=9)).1 ?_
 refine Zn7 Gk (gf:=177) (lb:=#[.pointer (some ⟨gB,0,none⟩)]) rfl (enters_of Tryz.func177 Gi rfl)
  (Zy8 8 Gk gB n cap (some ⟨go,0,none⟩) (L2.map RZ.rs) V5 (by rw[g8.out.2.2.1.cell];rfl) (g8.out.sl l2 i9 p0)) KpR.trans (λW l o o' _ h hc _=>KpR.put W l o o' h hc) (Qa _ _) (λ_=>rfl)
  (λk W=>(EnvK 3 25 149 150 39 W w.heap.size gX gO gB go n (some ⟨go,0,none⟩) cap L2/\∃ L:List RF,L.length=k/\L.map RF.q=(Zjz X n m).drop (n-k)/\OutK 35 41 W W0.heap.size gO (n-k) L)/\Below W0.heap.size W0 W)
  (OwnFrom.and (λk W W' row hs hg hr=>by
   obtain⟨h1,L,h2,h3,h4⟩:=hs;exact⟨h1.own hg (λr e=>(hr r e).2),L,h2,h3,h4.own hg (λr e=>(hr r e).2)⟩) (ownFrom_below (Qb _) J.out.size))
  ⟨⟨g8.out,[],rfl,by rw[Qf,Nat.sub_zero,List.drop_eq_nil_of_le];unfold Zjz;rw[Qd,Qi];exact Qb _,o1.out⟩,J.out⟩
  ?a1 ?assign ?body ?done
 case assign =>
  intro l k W K hk hK;dsimp only[Znw]
  gi_wp2
  exact hK
 case body =>
  intro l k W hk hI;obtain⟨⟨hE,L,t5,g7,hO⟩,g4⟩:=hI;obtain⟨i,n8⟩:=Gz (n-1-k);have q6:i<n:=Gk;obtain⟨x,hx⟩:=Zb5 (L:=L2) (i:=i) Gk;have n2:rsAt (L2.map RZ.rs) i=x.rs:=by unfold rsAt;rw[Qe,hx];rfl
  have j2:x.q.length=m:=by
   have h1:=(Zkz n 0 0 (Z8 Q) false 1 i4.out).1;rw[e5.out]at h1;have h2:E'[i]?=some x.q:=by rw[<- g0,Qe,hx];rfl
   have h3:=h1 i (List.getElem?_eq_some_iff.1 h2).1;rw[h2]at h3;exact h3
  (try dsimp only);rw[n8,n2];dsimp only[RS.val,RZ.rs];rw[j2];rw[show n-k=i+1 by omega]at hO g7
  have y6:n-(k+1)=i:=Gk;have υ7:Hid (∀ r ∈ L,r.g<W.heap.size):=Zd (λr hr=>(hO.2.1 r hr).1.1.lt);have q2:W0.heap.size<=W.heap.size:=g4.size
  have j7:Hid (BunK 3 25 149 150 39 35 41 w.heap.size gX gO gB go n (some ⟨go,0,none⟩) cap L2 W i Za8 [] L W):=Zd ⟨hE,by
      have h1:=hO.1;rw[List.replicate_succ',List.append_assoc]at h1;exact h1,OwnF.nil _ _ _,λr hr=>(hO.2.1 r hr).1.1,QD _ _⟩
  obtain⟨d1,d2,d3,d4,d5⟩:=hX.out;replace d1:=Zd d1;replace d2:=Zd d2;replace d3:=Zd d3;replace d4:=Zd d4;replace d5:=Zd d5
  have e8:Hid (∀ j,x.q[j]?.getD 0=Zaf E' i j):=Zd (λj=>by
   rw[<- g0];unfold Zaf;rw[Qe,hx];rfl)
  have nW:=hE.1.cell 0;simp at nW;replace hO:=Zd hO;replace hE:=Zd hE;replace g7:=Zd g7;replace g4:=Zd g4;replace n8:=Zd n8;replace n2:=Zd n2
  gi_wp2_with fail
  clear nW
  gi_loopw [13] (λkv wr=>∃ (t:Nat) (cur:RS),kv=.int .i64 ((n:Int)+(t:Int))/\t<=m-n/\BunK 3 25 149 150 39 35 41 w.heap.size gX gO gB go n (some ⟨go,0,none⟩) cap L2 W i cur ((Qh t).map λc=>X i (n+c)) L wr) (λkv _=>(m-intOf kv).toNat)
  case atStart=>exact⟨0,Za8,by go_num,Nat.zero_le _,j7.out⟩
  case round =>
   clear j7;obtain⟨t,cur,rfl,C1,a9⟩:=hrel;by_cases hlt:t<m-n
   ·skip
    have t2:decide ((n:Int)+(t:Int)<(m:Int))=true:=Gv Gk;have bnt:(0:Int)<=(n:Int)+(t:Int):=Gk;have bnm:(n:Int)+(t:Int)<(m:Int):=Gk;obtain⟨zn,zA,zk,zc,c0,c1,hz⟩:=(a9.1.2.2.2.row hx).1.at_ (i:=n+t) (by rw[j2];omega);rw[e8.out]at hz;have nc:=a9.1.1.cell 0;simp at nc;have e1:((n:Int)+(t:Int)).toNat=n+t:=Gk;replace a9:=Zd a9
    gi_wp2_with fail
    have I:Hid (∀ wx,Below wr.heap.size wr wx->wx.cell? ⟨x.g,(n+t)*2,none⟩=some (.bool zn)/\wx.cell? ⟨x.g,(n+t)*2+1,none⟩=some (.slice zA zk zc)):=Zd (λwx u=>⟨Zc u c0,Zc u c1⟩);have O:Below wr.heap.size wr wr.drew:=Zh (Qa _ _) 1;refine Zxt [] hmx Gi I O (λhxs=>?_);refine Zkb 4 [0,1,2,3] rfl Gi (I.out _ O) ?_
    iterate 4 (refine tkA ?_;try simp only[Qc,Zg9,Zgn,Zg3,Gr,Gq,Gp])
    refine tk0 ?_;refine Za5 [(4,56),(5,57),(6,51),(7,58),(9,14)] (λi=>match i with|6=>[8]|_=>[]) [(4,56),(5,57),(6,51),(8,59),(7,58),(9,14)] (Zbq wr.heap.size ((Zaf E' i (n+t)):Rat) 4 5 6 7 8 9 8) 2 Gi (λ_ _ _ _ _ hb h=>Zhv hb h) (λwx h=>I.out _ (Gs O h)) ?hop1 ?hfin1
    case hop1 =>
     intro p hp;simp only[Qm,Qk,or_false]at hp;simp only[Qg,Qf,Zaj,Qc,Zg9,Zgn,Zg3];rcases hp with rfl|rfl|rfl|rfl|rfl;exact ET
     ·intro ν wx hb hP
      have u:=Gs O hb;have h0:=hP (4,56) Gh Gi;simp only[Zbq]at h0;obtain⟨D0,e0,f0,hν,hN⟩:=h0;rw[hν];refine Zn (i:=5) rfl (λK hK=>?_);go_simp;refine(Zgj zn zA D0 zk zc e0 f0 (Zaf E' i (n+t)) 1 wx (hz.below u) hN Gj).mono ?_;exact Fv
     ·intro ν wx hb hP
      have h0:=hP (5,57) Gh Gi;exact Eb
     ·intro ν wx hb hP
      have h0:=hP (6,51) Gh Gi;exact EN
     exact ED
    case hfin1 =>
     intro ν wx hb hP;have h9:=hP (4,56) Gh;have h0:=hP (5,57) Gh;have h1:=hP (6,51) Gh;have h2:=hP (7,58) Gh;have h3:=hP (8,59) Gh;have h4:=hP (9,14) Gh;simp only[Zbq,Za0]at h9 h0 h1 h2 h4;obtain⟨y0,y1,y2,h9,-⟩:=h9;obtain⟨a0,a1,a2,a3,a4,a5,a6,a7,h0,-⟩:=h0;obtain⟨n5,p1,o8,p4,m0,n4,o4,p3,h1,-⟩:=h1;obtain⟨ssn,m8,ssk,ssc,ssm,o6,ssj,ssd,h2,ssf⟩:=h2;obtain⟨gss,h4,kv,qv⟩:=h4;simp only[Qg,Qf,Zaj,Qc,Zg9,Zgn,Zg3];rw[h9,h0,h1,h2,(show ν 59=Value.int .i64 0 by simpa [Zbq,Za0]using h3),h4];clear h9 h0 h1 h2 h3 h4 hP ν;have u:=Gs O hb;have C:=qv.four;have b0:wr.heap.size<=gss:=kv;refine(Z5 ssn m8 ssk ssc ssm o6 ssj ssd u b0 qv).elim (λZss hq=>?_);have c0:=C.1;have f4:=C.2.1;have e7:=C.2.2.1;have c3:=C.2.2.2.1;have f0:=C.2.2.2.2.1;have f1:=C.2.2.2.2.2.1;have f2:=C.2.2.2.2.2.2.1;have f3:=C.2.2.2.2.2.2.2;have hZ:=hq.1;refine wpAnyL_o 10 λK hK=>?_;go_simp;(try rw[hZ]);refine hK.out _ _ (λ_=>I.out _ hq.2.1) ?_;clear hK K
     try simp only[Qc,Zg9,Zgn,Zg3]
     refine Zgo 1 [11] rfl Gi (I.out _ hq.2.1) ?_
     (refine tkA ?_;try simp only[Qc,Zg9,Zgn,Zg3,Gr,Gq,Gp])
     refine tk0 ?_;refine wpAnyL_fin ?_;have o9:=hq.2.1;have ssb:=Zd hq.2.2.1;have i1:Hid (wr.heap.size<=gss):=Zd b0;replace ssf:=Zd (Fr.keep ssf hq.2.2.2.1);clear hq hZ c0 f4 e7 c3 f0 f1 f2 f3 C qv kv b0 u hb O I hxs;have c9:=a9.out.below o9;have f9:Fr Zss ssn m8 ssk ssc ssm o6 ssj ssd (upS (λi j=>(Zaf E' i j:Rat)) X i (n+t) (i+1)):=by rw[Ztf _ _ _ _ _ (Qb _)];exact ssf.out
     have j8:Hid (∀ r ∈ L,r.g≠gss):=Zd (λr hr e=>by
      have a1:=υ7.out r hr;have a2:=a9.out.2.2.2.2.size;have a3:=i1.out;omega)
     have h5:Hid (cur.val.ownBlock≠some gss):=Zd (λe=>by
      obtain⟨cs,a1,-,-⟩:=a9.out.2.2.1.ownBlk _ e;have a2:=a1.lt;have a3:=i1.out;omega)
     have l0:Hid (W.heap.size<=gss):=Zd (Qv a9.out.2.2.2.2.size i1.out);have A4:Hid (∀ k,k=gss->∃ t cs,Blk Zss k t cs/\NoLimb cs):=Zd (λk hk=>⟨_,_,hk▸ssb.out,Zfp _ _ _ _ _ _ _ _⟩);have z6:Hid (∀ W',Kept (λk=>k=gss) Zss W'->BunK 3 25 149 150 39 35 41 w.heap.size gX gO gB go n (some ⟨go,0,none⟩) cap L2 W i cur ((Qh t).map λc=>X i (n+c)) L W'):=Zd (λW' hk=>c9.turn l6.out g2 ssb.out (Zfp _ _ _ _ _ _ _ _) j8.out h5.out l0.out hk);replace f9:=Zd f9;replace c9:=Zd c9;clear ssf c0 c1 nc hz a9 c9
     gi_wp2_with fail
     gi_loopw [16] (λjv wx=>∃ (j:Nat) (sn:Bool) (sA:Option Addr) (sk sc:Nat) (sm:Bool) (sB:Option Addr) (sj sd:Nat),jv=.int .i64 j/\i+1<=j/\j<=n/\Blk wx gss 41 #[.bool sn,.slice sA sk sc,.bool sm,.slice sB sj sd]/\Fr wx sn sA sk sc sm sB sj sd (upS (λi j=>(Zaf E' i j:Rat)) X i (n+t) j)/\Kept (λk=>k=gss) Zss wx) (λjv _=>(n-intOf jv).toNat)
     case atStart=>exact⟨i+1,ssn,m8,ssk,ssc,ssm,o6,ssj,ssd,by go_num,Qb _,by omega,ssb.out,f9.out,QD _ _⟩
     case round =>
      clear f9 ssb;obtain⟨j,sn,sA,sk,sc,sm,sB,sj,sd,rfl,A9,B4,qs,d9,e2⟩:=hrel;have J:=z6.out _ e2;by_cases hjn':j<n
      ·skip
       have t3:decide ((j:Int)<(n:Int))=true:=Gv Gk;have C0:(0:Int)<=(j:Int):=Gk;have bjn:(j:Int)<(n:Int):=Gk;have bjm:(j:Int)<(m:Int):=Gk;have ej:((j:Nat):Int).toNat=j:=Gk;obtain⟨zn,zA,zk,zc,c0,c1,hz⟩:=(J.1.2.2.2.row hx).1.at_ (i:=j) (by rw[j2];omega);rw[e8.out]at hz;have nc:=J.1.1.cell 0;simp at nc;replace J:=Zd J;replace qs:=Zd qs;replace d9:=Zd d9;replace e2:=Zd e2
       gi_wp2_with fail
       have c4:Hid (∀ wx,Below wr.heap.size wr wx->wx.cell? ⟨x.g,(j)*2,none⟩=some (.bool zn)/\wx.cell? ⟨x.g,(j)*2+1,none⟩=some (.slice zA zk zc)):=Zd (λwx u=>⟨Zc u c0,Zc u c1⟩);have T:Below wr.heap.size wr wr.drew:=Zh (Qa _ _) 1;refine Zxt [] hmx Gi c4 T (λhxs=>?_);refine Zkb 4 [0,1,2,3] rfl Gi (c4.out _ T) ?_
       iterate 4 (refine tkA ?_;try simp only[Qc,Zg9,Zgn,Zg3,Gr,Gq,Gp])
       refine tk0 ?_;refine Za5 [(4,72),(5,73),(6,67),(7,74),(9,17)] (λi=>match i with|6=>[8]|_=>[]) [(4,72),(5,73),(6,67),(8,75),(7,74),(9,17)] (Zbq wr.heap.size ((Zaf E' i j):Rat) 4 5 6 7 8 9 8) 2 Gi (λ_ _ _ _ _ hb h=>Zhv hb h) (λwx h=>c4.out _ (Gs T h)) ?hop2 ?hfin2
       case hop2 =>
        intro p hp;simp only[Qm,Qk,or_false]at hp;simp only[Qg,Qf,Zaj,Qc,Zg9,Zgn,Zg3];rcases hp with rfl|rfl|rfl|rfl|rfl;exact ET
        ·intro ν wx hb hP
         have u:=Gs T hb;have h0:=hP (4,72) Gh Gi;simp only[Zbq]at h0;obtain⟨D0,e0,f0,hν,hN⟩:=h0;rw[hν];refine Zn (i:=5) rfl (λK hK=>?_);go_simp;refine(Zgj zn zA D0 zk zc e0 f0 (Zaf E' i j) 1 wx (hz.below u) hN Gj).mono ?_;exact Fv
        ·intro ν wx hb hP
         have h0:=hP (5,73) Gh Gi;exact Eb
        ·intro ν wx hb hP
         have h0:=hP (6,67) Gh Gi;exact EN
        exact ED
       case hfin2 =>
        intro ν wx hb hP;have h9:=hP (4,72) Gh;have h0:=hP (5,73) Gh;have h1:=hP (6,67) Gh;have h2:=hP (7,74) Gh;have h3:=hP (8,75) Gh;have h4:=hP (9,17) Gh;simp only[Zbq,Za0]at h9 h0 h1 h2 h4;obtain⟨y0,y1,y2,h9,-⟩:=h9;obtain⟨a0,a1,a2,a3,a4,a5,a6,a7,h0,-⟩:=h0;obtain⟨n5,p1,o8,p4,m0,n4,o4,p3,h1,-⟩:=h1;obtain⟨ccn,l7,cck,ccc,ccm,m7,ccj,ccd,h2,ccf⟩:=h2;obtain⟨gcc,h4,kv,qv⟩:=h4;simp only[Qg,Qf,Zaj,Qc,Zg9,Zgn,Zg3];rw[h9,h0,h1,h2,(show ν 75=Value.int .i64 0 by simpa [Zbq,Za0]using h3),h4];clear h9 h0 h1 h2 h3 h4 hP ν;have u:=Gs T hb;have C:=qv.four;have b0:wr.heap.size<=gcc:=kv;refine(Z5 ccn l7 cck ccc ccm m7 ccj ccd u b0 qv).elim (λZcc hq=>?_);have c0:=C.1;have f4:=C.2.1;have e7:=C.2.2.1;have c3:=C.2.2.2.1;have f0:=C.2.2.2.2.1;have f1:=C.2.2.2.2.2.1;have f2:=C.2.2.2.2.2.2.1;have f3:=C.2.2.2.2.2.2.2;have hZ:=hq.1;refine wpAnyL_o 10 λK hK=>?_;go_simp;(try rw[hZ]);refine hK.out _ _ (λ_=>c4.out _ hq.2.1) ?_;clear hK K
        try simp only[Qc,Zg9,Zgn,Zg3]
        refine Zgo 1 [11] rfl Gi (c4.out _ hq.2.1) ?_
        (refine tkA ?_;try simp only[Qc,Zg9,Zgn,Zg3,Gr,Gq,Gp])
        refine tk0 ?_;refine wpAnyL_fin ?_;have b2:=hq.2.1;have ccb:=Zd hq.2.2.1;have A7:Hid (wr.heap.size<=gcc):=Zd b0;replace ccf:=Zd (Fr.keep ccf hq.2.2.2.1);clear hq hZ c0 f4 e7 c3 f0 f1 f2 f3 C qv kv b0 u hb T c4 hxs;have a8:=J.out.below b2;have j1:=e2.out.below b2;have b5:=Ze b2 qs.out;have b1:=d9.out.below b2;obtain⟨y,hy⟩:=Zb5 (L:=L) (i:=j-(i+1)) (by have:=congrArg Qy g7.out;rw[Qd,List.length_drop]at this;unfold Zjz at this;rw[Qd,Qi]at this;omega);obtain⟨p2,v6⟩:=Zzt hjn' hlt g7.out Gk hy;obtain⟨⟨-,y7,y9⟩,-⟩:=hO.out.2.1 y (Qt hy);rw[p2]at y7;unfold maxLen at y9
        have t6:(Qq i Za8++cur::L.map RF.rs)[j]?=some y.rs:=by
         rw[Qn (by rw[Qj];omega),Qj,show j-i=j-(i+1)+1 by omega,List.getElem?_cons_succ,Qe,hy];rfl
        have k0:=a8.1.1.cell 0;simp at k0;have k1:=a8.1.2.1.cell 0;simp at k1;have k2:=a8.2.1.cell j;rw[Zb8 t6]at k2;simp only[RF.rs]at k2;rw[p2]at k2;obtain⟨n3,A3,k3,c3,m3,B3,j3,s8,r0,r1,r2,r3,o7⟩:=(a8.2.2.2.1 y (Qt hy)).at_ (i:=t) (by rw[p2];exact hlt);rw[v6]at o7;obtain⟨υ0,υ1,υ2,υ3,-⟩:=ccb.out.four;have j0:=(d3.out i j).sm Gj Gj;have i5:=(d4.out j (n+t)).sm Gj Gj;have v9:Hid (SmN 600 600 ((Zaf E' i j:Rat)*X j (n+t))):=Zd ((d3.out i j).mulN (d4.out j (n+t)));have B2:(0:Int)<=(t:Int):=Gk;have btm:(t:Int)<((m-n:Nat):Int):=Gk;have et:(n:Int)+(t:Int)-(n:Int)=(t:Int):=Gk;have B1:((t:Nat):Int).toNat=t:=Gk;have B7:IntKind.i64.wrap (t:Int)=(t:Int):=by rw[IntKind.wrap_i64];omega
        replace a8:=Zd a8;replace j1:=Zd j1;replace b5:=Zd b5;replace b1:=Zd b1;clear c0 c1 nc hz t6 J e2 qs d9
        gi_wp2_with fail
        have c2:Hid (∀ wx,Below Zcc.heap.size Zcc wx->wx.cell? ⟨gcc,0,none⟩=some (.bool ccn)/\wx.cell? ⟨gcc,1,none⟩=some (.slice l7 cck ccc)/\wx.cell? ⟨gcc,2,none⟩=some (.bool ccm)/\wx.cell? ⟨gcc,3,none⟩=some (.slice m7 ccj ccd)/\wx.cell? ⟨gX,0,none⟩=some (.slice (some ⟨gO,0,none⟩) n n)/\wx.cell? ⟨w.heap.size,0,none⟩=some (.int .i64 n)/\wx.cell? ⟨gO,j,none⟩=some (.slice (some ⟨y.g,0,none⟩) (m-n) y.c)/\wx.cell? ⟨y.g,t*4,none⟩=some (.bool n3)/\wx.cell? ⟨y.g,t*4+1,none⟩=some (.slice A3 k3 c3)/\wx.cell? ⟨y.g,t*4+2,none⟩=some (.bool m3)/\wx.cell? ⟨y.g,t*4+3,none⟩=some (.slice B3 j3 s8)):=Zd (λwx u=>⟨Zc u υ0,Zc u υ1,Zc u υ2,Zc u υ3,Zc u k1,Zc u k0,Zc u k2,Zc u r0,Zc u r1,Zc u r2,Zc u r3⟩);have c7:Below Zcc.heap.size Zcc Zcc.drew:=Zh (Qa _ _) 1;refine Zxt [] hmx Gi c2 c7 (λhxs3=>?_);refine Zkb 10 [0,1,2,3,4,5,6,7,8,9] rfl Gi (c2.out _ c7) ?_
        iterate 10 (refine tkA ?_;try simp only[Qc,Zg9,Zgn,Zg3,Gr,Gq,Gp])
        refine tk0 ?_;refine Za5 [(10,87),(11,76),(12,88),(14,19)] (λi=>match i with|11=>[13]|_=>[]) [(10,87),(11,76),(13,89),(12,88),(14,19)] (Za0 Zcc.heap.size ((Zaf E' i j:Rat)*X j (n+t)) 10 11 12 13 14 13) 2 Gi (λ_ _ _ _ _ hb h=>Zhm hb h) (λwx h=>c2.out _ (Gs c7 h)) ?hop3 ?hfin3
        case hop3 =>
         intro p hp;simp only[Qm,Qk,or_false]at hp;simp only[Qg,Qf,Zaj,Qc,Zg9,Zgn,Zg3];rcases hp with rfl|rfl|rfl|rfl
         ·intro ν wx hb hP
          have u:=Gs c7 hb;refine Zn (i:=10) rfl (λK hK=>?_);go_simp;refine(Zwt ccn ccm n3 m3 l7 m7 A3 B3 cck ccc ccj ccd k3 c3 j3 s8 _ _ wx (ccf.out.below u) (o7.below u) j0 i5).mono ?_;rintro e w5 ⟨ao,ce,A5,k5,c5,dX,B5,m5,d5,rfl,ar⟩;exact hK.out _ _ ⟨_,rfl,(by simp only[Za0];exact⟨_,_,_,_,_,_,_,_,rfl,ar⟩),ao,trivial⟩
         ·intro ν wx hb hP
          have h0:=hP (10,87) Gh Gi;simp only[Za0]at h0;obtain⟨ce,A5,k5,c5,dX,B5,m5,d5,hν,ar⟩:=h0;rw[hν];refine Zn (i:=11) rfl (λK hK=>?_);go_simp;refine hK.out _ _ ⟨_,rfl,(by simp only[Za0];exact⟨_,_,_,_,_,_,_,_,rfl,ar⟩),Qa _ _,?_⟩;exact⟨_,.int .i64 0,rfl,Or.inl ⟨by kernel_rfl,λW2 _=>by go_simp⟩,by simp[Za0],trivial⟩
         ·intro ν wx hb hP
          have h0:=hP (11,76) Gh Gi;simp only[Za0]at h0;obtain⟨ce,A5,k5,c5,dX,B5,m5,d5,hν,ar⟩:=h0;rw[hν];refine Zn (i:=12) rfl (λK hK=>?_);go_simp;exact hK.out _ _ ⟨_,rfl,(by simp only[Za0];exact⟨_,_,_,_,_,_,_,_,rfl,ar⟩),Qa _ _,trivial⟩
         intro ν wx hb hP;refine Zn (i:=14) rfl (λK hK=>?_);go_simp;exact hK.out _ _ ⟨_,rfl,(by simp only[Za0];exact⟨_,rfl,hb.size,QC _ _ _⟩),(Qa _ _).alloc (Qb _) _,trivial⟩
        case hfin3 =>
         intro ν wx hb hP;have h0:=hP (10,87) Gh;have h1:=hP (11,76) Gh;have h2:=hP (12,88) Gh;have h3:=hP (13,89) Gh;have h4:=hP (14,19) Gh;simp only[Za0]at h0 h1 h2 h4;obtain⟨a0,a1,a2,a3,a4,a5,a6,a7,h0,-⟩:=h0;obtain⟨n5,p1,o8,p4,m0,n4,o4,p3,h1,-⟩:=h1;obtain⟨wwn,r4,wwk,wwc,wwm,r6,wwj,wwd,h2,wwf⟩:=h2;obtain⟨gww,h4,kv,qv⟩:=h4;simp only[Qg,Qf,Zaj,Qc,Zg9,Zgn,Zg3];rw[h0,h1,h2,(show ν 89=Value.int .i64 0 by simpa [Za0]using h3),h4];clear h0 h1 h2 h3 h4 hP ν;have u:=Gs c7 hb;have C:=qv.four;have b0:Zcc.heap.size<=gww:=kv;refine(Z5 wwn r4 wwk wwc wwm r6 wwj wwd u b0 qv).elim (λZww hq=>?_);have c0:=C.1;have f4:=C.2.1;have e7:=C.2.2.1;have c3:=C.2.2.2.1;have f0:=C.2.2.2.2.1;have f1:=C.2.2.2.2.2.1;have f2:=C.2.2.2.2.2.2.1;have f3:=C.2.2.2.2.2.2.2;have hZ:=hq.1;refine wpAnyL_o 15 λK hK=>?_;go_simp;(try rw[hZ]);refine hK.out _ _ (λ_=>c2.out _ hq.2.1) ?_;clear hK K
         try simp only[Qc,Zg9,Zgn,Zg3]
         refine Zgo 1 [16] rfl Gi (c2.out _ hq.2.1) ?_
         (refine tkA ?_;try simp only[Qc,Zg9,Zgn,Zg3,Gr,Gq,Gp])
         refine tk0 ?_;refine wpAnyL_fin ?_;have b3:=hq.2.1;have wwb:=Zd hq.2.2.1;replace wwf:=Zd (Fr.keep wwf hq.2.2.2.1);clear hq hZ c0 f4 e7 c3 f0 f1 f2 f3 C qv kv u hb c7 c2 hxs3;have q4:=a8.out.below b3;have n1:=j1.out.below b3;have i7:=Ze b3 b5.out;have j9:=b1.out.below b3;have o5:=(d5.out i (n+t) j).sm Gj Gj;have x4:=v9.out.sm Gj Gj;obtain⟨s0,s1,s2,s3,-⟩:=i7.four;obtain⟨v0,v1,v2,v3,-⟩:=wwb.out.four;replace q4:=Zd q4;replace n1:=Zd n1;replace i7:=Zd i7;clear r0 r1 r2 r3 υ0 υ1 υ2 υ3 k0 k1 k2 j0 i5 a8 j1 b5 b1 o7 ccf ccb b2 b3
         gi_wp2_with fail
         refine⟨trivial,?_⟩;refine(CallsIn.inRound l (callsIn_wide.2 (Zws sn sm wwn wwm sA sB r4 r6 sk sc sj sd wwk wwc wwj wwd _ _ Zww j9 wwf.out o5 x4))).mono ?_;rintro e w8 ⟨f6,n6,A6,k6,c6,m6,B6,j6,d6,rfl,f8⟩;rw[<- Zrj (λi j=>(Zaf E' i j:Rat)) X (i:=i) (k:=n+t) (t:=j) Gk]at f8;have e6:=Ze f6 i7.out;have p7:=n1.out.below f6;obtain⟨W9,f7,y5,q9,i2,-,s9⟩:=Z5 (B:=gss) n6 A6 k6 c6 m6 B6 j6 d6 (Qa gss w8) (Qb _) e6;have o0:=Zd (Fr.keep f8 i2)
         have w4:Hid (Kept (λk=>k=gss) Zss W9):=Zd (by
          rw[<- f7];exact((((p7.set_ (p:=⟨gss,0,none⟩) (.inl rfl) _).set_ (p:=⟨gss,1,none⟩) (.inl rfl) _).set_ (p:=⟨gss,2,none⟩) (.inl rfl) _).set_ (p:=⟨gss,3,none⟩) (.inl rfl) _))
         replace q9:=Zd q9;clear s0 s1 s2 s3 v0 v1 v2 v3 j9 f8 f6 i2 p7;obtain⟨s0,s1,s2,s3,s4,s5,m9,s7⟩:=e6.four
         gi_wp2_with fail
         (try rw[f7]);clear s0 s1 s2 s3 s4 s5 m9 s7 f7 e6
         go_roundw
         case measure=>simp[intOf];omega
         case rel=>exact⟨j+1,n6,A6,k6,c6,m6,B6,j6,d6,by go_num,by omega,by omega,q9.out,o0.out,w4.out⟩
      obtain rfl:j=n:=Gk;have t3:decide ((j:Int)<(j:Int))=false:=Gh;have A8:(0:Int)<=(i:Int):=Gk;have bim:(i:Int)<(m:Int):=Gk;have bij:(i:Int)<(j:Int):=Gk;have ei:((i:Nat):Int).toNat=i:=Gk;obtain⟨zn,zA,zk,zc,c0,c1,hz⟩:=(J.1.2.2.2.row hx).1.at_ (i:=i) (by rw[j2];omega);rw[e8.out]at hz;have nc:=J.1.1.cell 0;simp at nc;replace J:=Zd J;replace qs:=Zd qs;replace d9:=Zd d9;replace e2:=Zd e2
      gi_wp2_with fail
      have b6:Hid (∀ wx,Below wr.heap.size wr wx->wx.cell? ⟨x.g,(i)*2,none⟩=some (.bool zn)/\wx.cell? ⟨x.g,(i)*2+1,none⟩=some (.slice zA zk zc)):=Zd (λwx u=>⟨Zc u c0,Zc u c1⟩);have c8:Below wr.heap.size wr wr.drew:=Zh (Qa _ _) 1;refine Zxt [] hmx Gi b6 c8 (λhxs=>?_);refine Zkb 4 [0,1,2,3] rfl Gi (b6.out _ c8) ?_
      iterate 4 (refine tkA ?_;try simp only[Qc,Zg9,Zgn,Zg3,Gr,Gq,Gp])
      refine tk0 ?_;refine Za5 [(4,101),(5,102),(6,96),(7,103),(9,21)] (λi=>match i with|6=>[8]|_=>[]) [(4,101),(5,102),(6,96),(8,104),(7,103),(9,21)] (Zbq wr.heap.size ((Zaf E' i i):Rat) 4 5 6 7 8 9 8) 2 Gi (λ_ _ _ _ _ hb h=>Zhv hb h) (λwx h=>b6.out _ (Gs c8 h)) ?hop4 ?hfin4
      case hop4 =>
       intro p hp;simp only[Qm,Qk,or_false]at hp;simp only[Qg,Qf,Zaj,Qc,Zg9,Zgn,Zg3];rcases hp with rfl|rfl|rfl|rfl|rfl;exact ET
       ·intro ν wx hb hP
        have u:=Gs c8 hb;have h0:=hP (4,101) Gh Gi;simp only[Zbq]at h0;obtain⟨D0,e0,f0,hν,hN⟩:=h0;rw[hν];refine Zn (i:=5) rfl (λK hK=>?_);go_simp;refine(Zgj zn zA D0 zk zc e0 f0 (Zaf E' i i) 1 wx (hz.below u) hN Gj).mono ?_;exact Fv
       ·intro ν wx hb hP
        have h0:=hP (5,102) Gh Gi;exact Eb
       ·intro ν wx hb hP
        have h0:=hP (6,96) Gh Gi;exact EN
       exact ED
      case hfin4 =>
       intro ν wx hb hP;have h9:=hP (4,101) Gh;have h0:=hP (5,102) Gh;have h1:=hP (6,96) Gh;have h2:=hP (7,103) Gh;have h3:=hP (8,104) Gh;have h4:=hP (9,21) Gh;simp only[Zbq,Za0]at h9 h0 h1 h2 h4;obtain⟨y0,y1,y2,h9,-⟩:=h9;obtain⟨a0,a1,a2,a3,a4,a5,a6,a7,h0,-⟩:=h0;obtain⟨n5,p1,o8,p4,m0,n4,o4,p3,h1,-⟩:=h1;obtain⟨ddn,t7,ddk,ddc,ddm,t4,ddj,ddd,h2,ddf⟩:=h2;obtain⟨gdd,h4,kv,qv⟩:=h4;simp only[Qg,Qf,Zaj,Qc,Zg9,Zgn,Zg3];rw[h9,h0,h1,h2,(show ν 104=Value.int .i64 0 by simpa [Zbq,Za0]using h3),h4];clear h9 h0 h1 h2 h3 h4 hP ν;have u:=Gs c8 hb;have C:=qv.four;have b0:wr.heap.size<=gdd:=kv;refine(Z5 ddn t7 ddk ddc ddm t4 ddj ddd u b0 qv).elim (λZdd hq=>?_);have c0:=C.1;have f4:=C.2.1;have e7:=C.2.2.1;have c3:=C.2.2.2.1;have f0:=C.2.2.2.2.1;have f1:=C.2.2.2.2.2.1;have f2:=C.2.2.2.2.2.2.1;have f3:=C.2.2.2.2.2.2.2;have hZ:=hq.1;refine wpAnyL_o 10 λK hK=>?_;go_simp;(try rw[hZ]);refine hK.out _ _ (λ_=>b6.out _ hq.2.1) ?_;clear hK K
       try simp only[Qc,Zg9,Zgn,Zg3]
       refine Zgo 1 [11] rfl Gi (b6.out _ hq.2.1) ?_
       (refine tkA ?_;try simp only[Qc,Zg9,Zgn,Zg3,Gr,Gq,Gp])
       refine tk0 ?_;refine wpAnyL_fin ?_;have d7:=hq.2.1;have ddb:=Zd hq.2.2.1;have A2:Hid (wr.heap.size<=gdd):=Zd b0;replace ddf:=Zd (Fr.keep ddf hq.2.2.2.1);clear hq hZ c0 f4 e7 c3 f0 f1 f2 f3 C qv kv b0 u hb c8 b6 hxs;have a8:=J.out.below d7;have b5:=Ze d7 qs.out;have b1:=d9.out.below d7;obtain⟨s0,s1,s2,s3,-⟩:=b5.four;obtain⟨v0,v1,v2,v3,-⟩:=ddb.out.four;have j0:=(d5.out i (j+t) j).sm Gj Gj;have i5:=(d3.out i i).sm Gj Gj;have o5:=d1.out i q6;replace a8:=Zd a8;replace b5:=Zd b5;clear c0 c1 nc hz J e2 qs d9 d7
       gi_wp2_with fail
       refine⟨trivial,?_⟩;refine(CallsIn.inRound l (callsIn_wide.2 (Zsh sn sm ddn ddm sA sB t7 t4 sk sc sj sd ddk ddc ddj ddd _ _ Zdd b1 ddf.out j0 i5 o5))).mono ?_;rintro e w8 ⟨f6,n6,A6,k6,c6,m6,B6,j6,d6,rfl,f8⟩;rw[show upS (λi j=>(Zaf E' i j:Rat)) X i (j+t) j/(Zaf E' i i:Rat)=X i (j+t) from(d2.out i (j+t) q6 Gk Gk).symm]at f8;have t8:=a8.out.below f6;have e6:=Ze f6 b5.out;obtain⟨W9,f7,y5,q9,i2,-,s9⟩:=Z5 (B:=gss) n6 A6 k6 c6 m6 B6 j6 d6 (Qa gss w8) (Qb _) e6;have o0:=Zd (Fr.keep f8 i2)
       have r5:Kept (λk=>k=gss) w8 W9:=by
        rw[<- f7];exact(((((QD (λk=>k=gss) w8).set_ (p:=⟨gss,0,none⟩) (.inl rfl) _).set_ (p:=⟨gss,1,none⟩) (.inl rfl) _).set_ (p:=⟨gss,2,none⟩) (.inl rfl) _).set_ (p:=⟨gss,3,none⟩) (.inl rfl) _)
       have b9:=t8.turn l6.out g2 e6 (Zfp _ _ _ _ _ _ _ _) j8.out h5.out l0.out r5;replace q9:=Zd q9;clear s0 s1 s2 s3 v0 v1 v2 v3 b1 f8 f6 i2 a8 t8 r5 ddf ddb b5;obtain⟨s0,s1,s2,s3,s4,s5,m9,s7⟩:=e6.four;have kO:=b9.2.1.cell i;rw[Zb8 (e:=cur) (by rw[Qn (by rw[Qj];exact Qb _),Qj,Nat.sub_self];rfl)]at kO;have kX:=b9.1.2.1.cell 0;simp at kX;have kz:=b9.2.1.frozen i;replace b9:=Zd b9
       gi_wp2_with fail
       (try rw[f7]);clear s0 s1 s2 s3 s4 s5 m9 s7 f7 e6;obtain⟨x0,x1,x2,x3,-⟩:=q9.out.four;obtain⟨X0,n7⟩:=Gz W9.drew
       have O:Below W9.heap.size W9 X0:=by rw[<- n7];exact Zh (Qa _ _) 1
       have I:Hid (∀ wx,Below W9.heap.size W9 wx->wx.cell? ⟨gX,0,none⟩=some (.slice (some ⟨gO,0,none⟩) j j)/\wx.cell? ⟨gO,i,none⟩=some (.slice cur.A cur.n cur.c)/\wx.cell? ⟨gss,0,none⟩=some (.bool n6)/\wx.cell? ⟨gss,1,none⟩=some (.slice A6 k6 c6)/\wx.cell? ⟨gss,2,none⟩=some (.bool m6)/\wx.cell? ⟨gss,3,none⟩=some (.slice B6 j6 d6)):=Zd (λwx u=>⟨Zc u kX,Zc u kO,Zc u x0,Zc u x1,Zc u x2,Zc u x3⟩);refine Zxt [10] hmx Gi I (by rw[n7];exact O) (λhxs=>?_);rw[n7];refine Zkb 7 [0,1,2,3,4,5,6] rfl Gi (I.out _ O) ?_
       iterate 7 (refine tkA ?_;try simp only[Qc,Zg9,Zgn,Zg3,Gr,Gq,Gp])
       refine tk0 ?_;obtain⟨Y1,i6⟩:=Gz (X0.alloc (.cells #[.bool n6,.slice A6 k6 c6,.bool m6,.slice B6 j6 d6] 41));obtain⟨ga,m2⟩:=Gz X0.heap.size;have υ6:Below X0.heap.size X0 Y1:=by rw[<- i6];exact(Qa _ _).alloc (Qb _) _
       have p9:Blk Y1 ga 41 #[.bool n6,.slice A6 k6 c6,.bool m6,.slice B6 j6 d6]:=by rw[<- i6,<- m2];exact QC _ _ _
       have T:Below W9.heap.size W9 Y1:=Gs O υ6;refine wpAnyL_o 7 λK hK=>?_;go_simp;(try rw[i6]);(try rw[m2]);refine hK.out _ _ (λ_=>I.out _ T) ?_;clear hK K i6 m2
       try simp only[Qc,Zg9,Zgn,Zg3]
       have U:=b9.out.below T;have p5:=o0.out.below T;have v7:=U.2.2.2.2.size;refine wpAnyL_o 8 λK hK=>?_;rw[Gx Ge];refine Zhk _ (.tmp 116) (.tmp 118) 35 rfl W.heap.size 41 iF Tryz.underlying35 hi y8 A1 x6 cur.val ((Qh t).map λc=>X i (j+c)) rfl U.2.2.1 _ (some ⟨ga,0,none⟩) 1 1 [⟨n6,A6,k6,c6,m6,B6,j6,d6,X i (j+t)⟩] rfl (Zcn _ p9) rfl (by intro e he;rw[List.mem_singleton]at he;subst he;exact p5) Gg v7 ?_;intro v2 Y2 aZ j5 r9
       obtain⟨nA,nn,nc,rfl⟩:∃ A n c,v2=.slice A n c:=by
        exact Co
       have k8:OwnF 41 Y2 W.heap.size (RS.val ⟨nA,nn,nc⟩) ((Qh (t+1)).map λc=>X i (j+c)):=by
        rw[List.range_succ,List.map_append];exact aZ
       have h8:=U.2.2.1.ownBlk
       have j4:Y2.cell? ⟨gX,0,none⟩=some (.slice (some ⟨gO,0,none⟩) j j)/\Y2.cell? ⟨gO,i,none⟩=some (.slice cur.A cur.n cur.c)/\Y2.cell? ⟨gss,0,none⟩=some (.bool n6)/\Y2.cell? ⟨gss,1,none⟩=some (.slice A6 k6 c6)/\Y2.cell? ⟨gss,2,none⟩=some (.bool m6)/\Y2.cell? ⟨gss,3,none⟩=some (.slice B6 j6 d6):=by
        have f:∀ (g o:Nat) (v:Value),g<W.heap.size \/ g=gO \/ g=gss->Y1.cell? ⟨g,o,none⟩=some v->Y2.cell? ⟨g,o,none⟩=some v:=λg o v hgg hv=>by
         rw[<- hv];refine World.cell?_of_block (j5.block g (Zp hv) (λe=>?_));obtain⟨cs,a1,-,a2⟩:=h8 g e.symm;rcases hgg with h1|h1|h1;omega;subst h1;exact g2 (U.2.1.type a1);subst h1;exact h5.out e.symm
        have t9:gX<W.heap.size:=hE.out.2.1.lt;obtain⟨a0,a1,a2,a3,a4,a5⟩:=I.out _ T;exact⟨f _ _ _ (.inl t9) a0,f _ _ _ (.inr (.inl rfl)) a1,f _ _ _ (.inr (.inr rfl)) a2,f _ _ _ (.inr (.inr rfl)) a3,f _ _ _ (.inr (.inr rfl)) a4,f _ _ _ (.inr (.inr rfl)) a5⟩
       refine hK.out _ _ (λ_=>j4) ?_;clear hK K
       try simp only[Qc,Zg9,Zgn,Zg3]
       have n9:=Zd (U.app l6.out z5.out g2 υ7.out (cur':=⟨nA,nn,nc⟩) j5 k8 r9);have w3:=j4.2.1
       have A0:Y2.frozen? ⟨gO,i,none⟩=false:=by
        rw[World.frozen?_of_block (j5.block gO U.2.1.lt (λe=>by
         obtain⟨cs,a1,-,-⟩:=h8 gO e.symm;exact g2 (U.2.1.type a1)))]
        exact U.2.1.frozen i
       refine Zgo 1 [9] rfl Gi j4 ?_
       (refine tkA ?_;try simp only[Qc,Zg9,Zgn,Zg3,Gr,Gq,Gp])
       refine tk0 ?_;clear j4 aZ k8 h8 U p5 p9 υ6 T;refine Zy (i:=10) rfl Gi Gi (λK hK=>?_);go_simp;refine hK.out _ _ ?_;clear hK K
       try simp only[Qc,Zg9,Zgn,Zg3]
       refine wpAnyL_fin ?_;clear w3 A0 hxs I O kX kO kz x0 x1 x2 x3 j5 r9
       gi_wp2_with fail
       go_roundw
       case measure=>simp[intOf];omega
       case rel=>exact⟨t+1,⟨nA,nn,nc⟩,by go_num,by omega,n9.out⟩
   obtain rfl:t=m-n:=Gk;have t2:decide ((n:Int)+((m-n:Nat):Int)<(m:Int))=false:=Gu Gk;obtain⟨r,z4,p6⟩:=a9.out Gg hO.out q2;have w9:KeepsOthers W wr:=a9.2.2.2.2.others (λk hk=>⟨_,_,hk▸hO.out.1⟩);have s6:Below W0.heap.size W0 wr:=g4.out.trans (a9.2.2.2.2.to_below (λk hk=>by rw[hk];exact w7) q2);have o2:=a9.1
   gi_wp2_with fail
   (try go_at_K);refine⟨w9,⟨λ_=>by rw[o2.2.2.1.cell];rfl,λ_=>o2.sl l2 i9 p0⟩,⟨o2,r::L,by rw[Qo,t5],?_,?_⟩,s6⟩
   rw[Qg,z4,g7.out,Zw9 hk,show n-k=i+1 by omega,show n-1-k=i by omega];rw[y6];exact p6
 case done =>
  intro D W hD hI hK
  have z7:∀ (W':World),W'=W.putObj D (.deferred none)->(EnvK 3 25 149 150 39 W' w.heap.size gX gO gB go n (some ⟨go,0,none⟩) cap L2/\∃ L:List RF,L.length=n/\L.map RF.q=(Zjz X n m).drop (n-n)/\OutK 35 41 W' W0.heap.size gO (n-n) L):=λW' e=>by
   obtain⟨⟨h1,L,h2,h3,h4⟩,-⟩:=hI;subst e;have hr:∀ r,some D=some r->∃ o:Obj,W.heap[r]?=some o/\o.isCells=false:=λr e=>by cases e;exact⟨_,hK,rfl⟩
   exact⟨h1.own (grownBy_putObj' W D _) hr,L,h2,h3,h4.own (grownBy_putObj' W D _) hr⟩
  have kX:=hI.1.1.2.1.cell 0;simp at kX;have g4:=hI.2;clear hI;go_wp2_with fail
  have v4:w.heap.size<=V5.heap.size:=by
   have h1:=J.out.size;have h2:=g5.size;omega
  refine⟨by simp,.inl ⟨_,_,rfl,run_takeDeferred hK,?_⟩⟩;obtain⟨B8,L,B9,t0,aZ⟩:=z7 _ rfl;rw[Nat.sub_self]at t0 aZ;refine⟨.tuple #[.slice (some ⟨gO,0,none⟩) n n,.bool true],by simp[results,Tryz.f82,go_sem],gO,L,rfl,(Gs g5 g4).trans (belowK_b (w:=V5) v4 W D _ _ hD hK rfl rfl),by have h2:=g5.size;omega,⟨⟨[],?_⟩,λr hr=>(aZ.2.1 r hr).1,?_⟩,by rw[t0,List.drop_zero],λr hr=>Qv g5.size (aZ.2.1 r hr).2⟩
  ·have h1:=aZ.1
   rw[List.replicate_zero,Qp]at h1;rw[QB];exact h1
  rw[List.nodup_cons];refine⟨λhm=>?_,aZ.2.2⟩;obtain⟨r,hr,e⟩:=List.mem_map.1 hm;obtain⟨es,zs,h1,-,-⟩:=(aZ.2.1 r hr).1.1;rw[e]at h1;exact g2 (aZ.1.type h1)
theorem Z0i(A:Option Addr)(n c m:Nat)(Q:List (List Rat))(w:World)(h:MFL w A n c Q)(hn0:0<n)(hn9:n<=900)(hnm:n<=m)(hm9:m<=900)(hm:∀ i,i<n->(Q[i]?.getD []).length=m)(T:okZ (pw 200) m n 0 0 (Z8 Q) 1)(hfin:Zr8 Q n m)(a6:(Zas n 0 0 (Z8 Q) false 1).2.1<n) :
    Calls Tryz.prog 82 #[.slice A n c,.int .i64 n] w λe w'=>e=.returned (.tuple #[.slice none 0 0,.bool false])/\Below w.heap.size w w':=by
 have hmx:=Gt;have b9:(150:TypeId)≠39:=Gj;have d4:(35:TypeId)≠41:=Gj;have d6:Hid (NoT 3 25 149 150 39 41):=Zd (by unfold NoT;decide);have d0:Hid (NoT 3 25 149 150 39 35):=Zd (by unfold NoT;decide);obtain⟨iF,hi,d7,d9,d3⟩:=info_parts Ze1;obtain⟨iS,ki,d5,d8,e0⟩:=info_parts Ziq;have c1:=Zd h.1;obtain⟨W0,c0,a7,q0,s0⟩:=Zao w 3 #[.int .i64 n];replace h:=h.below a7;obtain⟨FIN,C⟩:=Gz (Zas n 0 0 (Z8 Q) false 1);rw[C]at a6;obtain⟨E',rk,ng,la⟩:=FIN;replace a6:rk<n:=a6;replace C:=Zd C;replace T:=Zd T;refine(callsIn_wide (n:=9)).1 ?_;refine callsIn_of_wp_marks Tryz.func82 rfl trivial ?_ rfl;simp only[Tryz.ntmps82,Qw,Qo,QA,Nat.reduceAdd,Nat.reduceSub,Qr,Qs,Qx,Qu,Qp,Qz];refine wpIn_wide.2 ?_;go_wp2_with fail;refine(Zpy A n c m Q W0 h hn9 hm Gk hm9 hfin.1 hfin.2).mono ?_;rintro e w1 ⟨v,vb,L,rfl,J,hM,hq,hP,a2⟩;obtain⟨vA,vc,rfl,b6,b5,-⟩:=hP.poly_at;rw[Qd,Qi]at b6 hP a2 ⊢;unfold maxLen at b5;have f:=congrArg Qy hq;rw[Qd]at f;unfold Z8 at f;rw[Qd,c1.out]at f;obtain⟨go,cap,rfl,b8,c7,ff,b1,fg⟩:=hM.mat b9 (λe=>by rw[e]at f;simp at f;omega);rw[f]at b8 ⊢;obtain⟨g3,a9⟩:=Gz w1.heap.size;obtain⟨V,hV,U,qv,kW,kB,sV⟩:=Zq 152 #[.slice (some ⟨go,0,none⟩) n cap,.slice vA n vc] (Qa w1.heap.size w1) (Qb _);have b3:=b1.below U;have O:=(Ze J q0).below U (Ze J q0).lt;rw[a9]at qv;obtain⟨x0,x1,-,-⟩:=qv.two;have nV:=O.cell 0;simp at nV;replace f:=Zd f;have b2:Hid (w.heap.size<W0.heap.size):=Zd Gk;have I:Hid (Below W0.heap.size W0 V):=Zd (Gs J U)
 have o:∀ k,(k=go \/ k ∈ L.map RZ.g)->W0.heap.size<=k:=λk hk=>by
  exact Cs
 have y:∀ k,(k=go \/ k ∈ L.map RZ.g)->k<g3:=λk hk=>by
  obtain⟨t,cs,hb,-⟩:=b1.boxes k hk;rw[<- a9];exact hb.lt
 replace o:=Zd o;replace y:=Zd y;replace qv:=Zd qv;replace O:=Zd O;clear hM b1 kW kB sV a2 hP h c0 ff fg q0 J U;go_wp2_with fail;(try rw[a9]);(try rw[hV]);refine(Ziv go n cap L (.slice vA n vc) m n V b3 f.out hn0 hn9 b8 c7 Gk hm9 (by rw[hq];exact T.out)).mono ?_;rw[hq,C.out];rintro e w2 ⟨L2,ln,lA,lk,lc,rfl,c5,c9,-,a0,b7,Y⟩;replace a0:L2.map RZ.q=E':=a0;clear hV x0 x1 nV;have a3:¬ (g3=go \/ g3 ∈ L.map RZ.g):=λh=>by have:=y.out g3 h;omega
 have q3:=Y.blk qv.out a3;have a5:=Y.blk O.out (λh=>by have:=o.out _ h;have:=b2.out;omega);have b0:Below W0.heap.size W0 w2:=I.out.trans (Y.to_below o.out I.out.size);obtain⟨g6,c2⟩:=Gz w2.heap.size;obtain⟨V2,c4,u,c6,kW,kB,sV⟩:=Zq 39 #[.bool ln,.slice lA lk lc] (Qa w2.heap.size w2) (Qb _);have a4:=q3.below u q3.lt;have a1:=a5.below u a5.lt;have b4:=b7.below u;have a8:=Zd (Gs b0 u);obtain⟨y0,y1,-,-⟩:=a4.two;have c3:=a1.cell 0;simp at c3;have t1:decide ((rk:Int)<(n:Int))=true:=Gv Gk;have c8:Hid (Below w.heap.size w V2):=Zd (Gs a7 a8.out);clear b3 Y b0 c5 q3 a5 kW kB sV o y u a4 a1 b7 c6 a3 O qv I b4 hm hfin T;go_wp2_with fail;(try rw[c2]);(try rw[c4]);go_wp2_with fail;exact⟨.tuple #[.slice none 0 0,.bool false],by simp[results,Tryz.f82,go_sem],rfl,c8.out⟩
def Zf2(n j:Nat):List Rat:=(Qh n).map λk=>if j=k then 1 else 0
def Zbk(Q:List (List Rat))(n i t:Nat):List (List Rat):=(Qh n).map λj=>Q[j]?.getD []++if j<i then Zf2 n j else if j=i then (Zf2 n j).take t else []
theorem Zps(Q:List (List Rat))(n i t:Nat):(Zbk Q n i t).length=n:=by unfold Zbk;simp
theorem Zk7{Q:List (List Rat)}{n i t j:Nat}(hj:j<n):(Zbk Q n i t)[j]?.getD []=Q[j]?.getD []++if j<i then Zf2 n j else if j=i then (Zf2 n j).take t else []:=by
 unfold Zbk;rw[Qe,Ql hj];rfl
theorem Zif(n j:Nat):(Zf2 n j).length=n:=by unfold Zf2;simp
