/- Package linear: back. Package linear: back, where there is -/
import Derived.Lib.AppendZeros
import Derived.Test.YthappeninglakaaGreatZi15
set_option maxRecDepth 100000
set_option maxHeartbeats 8000000
set_option linter.unusedSimpArgs false
set_option linter.unusedVariables false
namespace Go.Proofs.YthappeninglakaaGreat
open Go.RowKit
open Nat renaming le_refl→Qa,le_trans→Qs,sub_self→Qt
open Below renaming refl→Qb
open List renaming length_map→Qc,getElem?_map→Qe,length_replicate→Qf,replicate→Qg,map_nil→Qh,map_cons→Qi,getElem?_range→Qj,range→Qk,length_range→Ql,getElem?_append_right→Qm,not_mem_nil→Qn,getElem?_eq_none→Qo,mem_of_getElem?→Qp,mem_cons→Qq,length_cons→Qr,getElem?_replicate→Qu,nil_append→Qv,replicate_succ'→Qy,append_toArray→Qz,mem_singleton→QA,size_toArray→QC,push_toArray→QD,append_assoc→QE,length→QF,cons_append→QG,length_nil→QI,append_nil→QJ
open Act renaming put→Qd
open _root_.Array renaming replicate_succ→Qw,replicate_zero→Qx
open Blk renaming new→QB
open Option renaming map_some→QH
open Kept renaming refl→QK
open Go.RowKit Go.Shelf
attribute [local go_sem] Zg
attribute [local go_sem] Oper.semAt_some
theorem Zfh(z:Int):Rat.divInt z 1=(z:Rat):=by
 exact FG
def Zbn(B0:Nat)(q:Rat)(fr ca mv x0 x1 al as_:Nat)(i:Nat)(v:Value)(w:World):Prop:=
 if i=fr then ∃ A n c,v=.agg #[.bool false,.slice A n c]/\Wd w false A n c 1 else Za1 B0 q ca mv x0 x1 al as_ i v w
theorem Zh2{B0:Nat}{q:Rat}{fr ca mv x0 x1 al as_ i:Nat}{v:Value}{w w':World}(hb:Below w.heap.size w w')(h:Zbn B0 q fr ca mv x0 x1 al as_ i v w):Zbn B0 q fr ca mv x0 x1 al as_ i v w':=by
 unfold Zbn at h ⊢
 split at h
 ·rename_i h1;rw[Gx h1]
  obtain⟨A,n,c,e,hf⟩:=h;exact⟨A,n,c,e,hf.below hb⟩
 rename_i h1;rw[Gw h1];exact Zhu hb h
theorem Zk1{C m:Nat}:∀ (f c r:Nat) (Z:List (List Int)) (ng:Bool) (last:Int),okZ C m f c r Z last->BdZ C m (Zar f c r Z ng last).1
 | 0,_,_,_,_,_,h=>h.1
 | f+1,c,r,Z,ng,last,h=>by
  by_cases h0:r=Z.length;rw[Zn4 h0];exact(Z0u h).1;obtain⟨q,hq⟩:∃ q,Zbp (λi=>Zah Z i c == 0) Z.length Z.length r=q:=⟨_,rfl⟩;by_cases hn:q=Z.length;rw[Zm3 h0 hq hn];exact Zk1 f _ _ _ _ _ (Ztz h h0 hq hn);rw[Znk h0 hq hn];exact Zk1 f _ _ _ _ _ (Ztu h h0 hq hn)
theorem Zyc{X:Nat->Nat->Rat}{n m k:Nat}(h:k<n):(Zj2 X n m).drop (n-(k+1))=((Qk (m-n)).map λc=>X (n-1-k) (n+c))::(Zj2 X n m).drop (n-k):=by
 unfold Zj2;have hl:n-(k+1)<((Qk n).map λi=>(Qk (m-n)).map λc=>X i (n+c)).length:=by rw[Qc,Ql];omega
 rw[List.drop_eq_getElem_cons hl,show n-(k+1)+1=n-k by omega];congr 1;rw[List.getElem_map,List.getElem_range,show n-(k+1)=n-1-k by omega]
theorem Z03{X:Nat->Nat->Rat}{n m j t:Nat}(hj:j<n)(ht:t<m-n){L:List RF}{i:Nat}(hL:L.map RF.q=(Zj2 X n m).drop (i+1))(hij:i<j){y:RF}(hy:L[j-(i+1)]?=some y):y.q.length=m-n/\y.q[t]?.getD 0=X j (n+t):=by
 have h1:(L.map RF.q)[j-(i+1)]?=some y.q:=by rw[Qe,hy];rfl
 rw[hL,List.getElem?_drop,show i+1+(j-(i+1))=j by omega]at h1;unfold Zj2 at h1;rw[Qe,Qj hj]at h1;simp only[QH,Option.some.injEq]at h1;rw[<- h1];refine⟨by simp,?_⟩;rw[Qe,Qj ht];rfl
theorem Cp{G:Prop}(h:G:=by
 obtain⟨A,c,e,-⟩:=bH.fl;exact⟨_,_,_,e⟩):G:=h
theorem Ct{G:Prop}(h:G:=by
 rcases hk with rfl|hk;exact ff;obtain⟨s,hs,rfl⟩:=List.mem_map.1 hk;exact fg s hs):G:=h
theorem Fv{G:Prop}(h:G:=by
 rintro e w5 ⟨ao,cu,A5,k5,c5,ee,B5,m5,d5,rfl,ax⟩;rw[Zfh]at ax;exact hK.out _ _ ⟨_,rfl,(by simp only[Zbn,Za1];exact⟨_,_,_,_,_,_,_,_,rfl,ax⟩),ao,trivial⟩):G:=h
theorem EC{G:Prop}(h:G:=by
 intro ν wx hb hP;refine Zm (i:=9) rfl (λK hK=>?_);go_simp;exact hK.out _ _ ⟨_,rfl,(by simp only[Zbn,Za1];exact⟨_,rfl,hb.size,Blk.new _ _ _⟩),(Below.refl _ _).alloc (Nat.le_refl _) _,trivial⟩):G:=h
theorem EM{G:Prop}(h:G:=by
 simp only[Zbn,Za1]at h0;obtain⟨cu,A5,k5,c5,ee,B5,m5,d5,hν,ax⟩:=h0;rw[hν];refine Zm (i:=7) rfl (λK hK=>?_);go_simp;exact hK.out _ _ ⟨_,rfl,(by simp only[Zbn,Za1];exact⟨_,_,_,_,_,_,_,_,rfl,ax⟩),Below.refl _ _,trivial⟩):G:=h
theorem ES{G:Prop}(h:G:=by
 intro ν wx hb hP;refine Zm (i:=4) rfl (λK hK=>?_);go_simp;refine(Zb2 1 wx Gj Gj).mono ?_;rintro e w5 ⟨ao,d0,D0,e0,f0,rfl,hN⟩;obtain rfl:d0=false:=hN.1;exact hK.out _ _ ⟨_,rfl,(by simp only[Zbn];exact⟨_,_,_,rfl,hN⟩),ao,trivial⟩):G:=h
theorem Ea{G:Prop}(h:G:=by
 simp only[Zbn,Za1]at h0;obtain⟨cu,A5,k5,c5,ee,B5,m5,d5,hν,ax⟩:=h0;rw[hν];refine Zm (i:=6) rfl (λK hK=>?_);go_simp;refine hK.out _ _ ⟨_,rfl,(by simp only[Zbn,Za1];exact⟨_,_,_,_,_,_,_,_,rfl,ax⟩),Below.refl _ _,?_⟩;exact⟨_,.int .i64 0,rfl,Or.inl ⟨by kernel_rfl,λW2 _=>by go_simp⟩,by simp[Zbn,Za1],trivial⟩):G:=h
theorem Z04(A:Option Addr)(n c m:Nat)(Q:List (List Rat))(w:World)(h:MFL w A n c Q)(hn0:0<n)(hn9:n<=900)(hnm:n<m)(hm9:m<=900)(hm:∀ i,i<n->(Q[i]?.getD []).length=m)(i4:okZ (pw 200) m n 0 0 (Z6 Q) 1)(hfin:Zs0 Q n m)(hrk:(Zar n 0 0 (Z6 Q) false 1).2.1=n)
    (X:Nat->Nat->Rat) (hX:Zhg (λi j=>(Zah (Zar n 0 0 (Z6 Q) false 1).1 i j:Rat)) X n m) :
    Calls Tryz.prog 82 #[.slice A n c,.int .i64 n] w λe w'=>∃ gO L,e=.returned (.tuple #[.slice (some ⟨gO,0,none⟩) n n,.bool true])/\Below w.heap.size w w'/\w.heap.size<=gO/\MatB 35 41 w' gO L/\L.map RF.q=Zj2 X n m/\∀ r ∈ L,w.heap.size<=r.g:=by
 have hmx:=Gt;have u9:(150:TypeId)≠39:=Gj;have g2:(35:TypeId)≠41:=Gj;have l6:Hid (NoT 3 25 149 150 39 41):=Za (by unfold NoT;decide);have z5:Hid (NoT 3 25 149 150 39 35):=Za (by unfold NoT;decide);obtain⟨iF,hi,y8,A1,x6⟩:=info_parts Zd6;obtain⟨iS,ki,x8,w0,y4⟩:=info_parts Zhb;have v5:=Za h.1;obtain⟨W0,x5,g5,q0,s0⟩:=Zam w 3 #[.int .i64 n];replace h:=h.below g5;obtain⟨FIN,e5⟩:=Gz (Zar n 0 0 (Z6 Q) false 1);rw[e5]at hrk hX;obtain⟨E',rk,ng,la⟩:=FIN;have u5:rk=n:=hrk;subst u5;replace hX:Zhg (λi j=>(Zah E' i j:Rat)) X rk m:=hX;obtain⟨n,hn⟩:∃ n,n=rk:=⟨_,rfl⟩;subst hn;replace e5:=Za e5;replace i4:=Za i4;replace hX:=Za hX;refine(callsIn_wide (n:=9)).1 ?_;refine callsIn_of_wp_marks Tryz.func82 rfl trivial ?_ rfl;simp only[Tryz.ntmps82,QC,Qr,QI,Nat.reduceAdd,Nat.reduceSub,Qw,Qx,QD,Qz,Qv,QG];refine wpIn_wide.2 ?_;go_wp2_with fail;refine(Zqi A n c m Q W0 h hn9 hm Gk hm9 hfin.1 hfin.2).mono ?_;rintro e w1 ⟨v,vb,L,rfl,i3,hM,hq,hP,k4⟩;obtain⟨vA,vc,rfl,q5,u4,-⟩:=hP.poly_at;rw[Qc,Ql]at q5 hP k4 ⊢;unfold maxLen at u4;have d8:=congrArg QF hq;rw[Qc]at d8;unfold Z6 at d8;rw[Qc,v5.out]at d8;obtain⟨go,cap,rfl,i9,p0,ff,m4,fg⟩:=hM.mat u9 (λe=>by rw[e]at d8;simp at d8;omega);rw[d8]at i9 ⊢;obtain⟨g3,l9⟩:=Gz w1.heap.size
 obtain⟨V,hV,c9,qv,kW,kB,sV⟩:=Zn 152 #[.slice (some ⟨go,0,none⟩) n cap,.slice vA n vc] (Qb w1.heap.size w1) (Qa _);have r7:=m4.below c9;have g9:=(Zc i3 q0).below c9 (Zc i3 q0).lt;rw[l9]at qv;obtain⟨x0,x1,-,-⟩:=qv.two;have nV:=g9.cell 0;simp at nV;replace d8:=Za d8;have q1:Hid (w.heap.size<W0.heap.size):=Za Gk;have h7:Hid (Below W0.heap.size W0 V):=Za (Gs i3 c9)
 have e3:∀ k,(k=go \/ k ∈ L.map RZ.g)->W0.heap.size<=k:=λk hk=>by
  exact Ct
 have g1:∀ k,(k=go \/ k ∈ L.map RZ.g)->k<g3:=λk hk=>by
  obtain⟨t,cs,hb,-⟩:=m4.boxes k hk;rw[<- l9];exact hb.lt
 replace e3:=Za e3;replace g1:=Za g1;replace qv:=Za qv;replace g9:=Za g9;clear hM m4 kW kB sV k4 hP h x5 ff fg q0 i3 c9;go_wp2_with fail;(try rw[l9]);(try rw[hV]);refine(Zi0 go n cap L (.slice vA n vc) m n V r7 d8.out hn0 hn9 i9 p0 Gk hm9 (by rw[hq];exact i4.out)).mono ?_;rw[hq,e5.out];rintro e w2 ⟨L2,ln,lA,lk,lc,rfl,y3,l2,-,g0,q7,i8⟩;replace g0:L2.map RZ.q=E':=g0;clear hV x0 x1 nV;have l1:¬ (g3=go \/ g3 ∈ L.map RZ.g):=λh=>by have:=g1.out g3 h;omega
 have q3:=i8.blk qv.out l1;have l3:=i8.blk g9.out (λh=>by have:=e3.out _ h;have:=q1.out;omega);have m1:Below W0.heap.size W0 w2:=h7.out.trans (i8.to_below e3.out h7.out.size);obtain⟨g6,x7⟩:=Gz w2.heap.size;obtain⟨V2,x9,e4,v8,kW,kB,sV⟩:=Zn 39 #[.bool ln,.slice lA lk lc] (Qb w2.heap.size w2) (Qa _);have b7:=q3.below e4 q3.lt;have b8:=l3.below e4 l3.lt;have h6:=q7.below e4;have e9:=Za (Gs m1 e4);obtain⟨y0,y1,-,-⟩:=b7.two;have z9:=b8.cell 0;simp at z9;have t1:decide ((n:Int)<(n:Int))=false:=Gh;obtain⟨gO,o3⟩:=Gz V2.heap.size;obtain⟨V3,n0⟩:=Gz (V2.alloc (.cells (Z5 (Qg n Za5)) 35));have b4:Below V2.heap.size V2 V3:=by rw[<- n0];exact(Qb _ _).alloc (Qa _) _
 have l5:Blk V3 gO 35 (Z5 (Qg n Za5)):=by rw[<- n0,<- o3];exact QB _ _ _
 obtain⟨gX,r8⟩:=Gz V3.heap.size;obtain⟨V4,z8,f5,l4,-,-,s4⟩:=Zn 25 #[.slice (some ⟨gO,0,none⟩) n n] (Qb V3.heap.size V3) (Qa _);rw[r8]at l4;have w6:=Zrc (P:=Tryz.prog) 25 35 Tryz.underlying25 ki x8 w0 y4 (n:Int) n rfl Gk V2;rw[n0,o3]at w6;have k9:=(b7.below b4 b7.lt).below f5 (b7.below b4 b7.lt).lt;have i0:=(b8.below b4 b8.lt).below f5 (b8.below b4 b8.lt).lt;have k7:=(h6.below b4).below f5;have q8:=l5.below f5 l5.lt;obtain⟨z0,z1,-,-⟩:=k9.two;have z3:=i0.cell 0;simp at z3;have bc:(n:Int)<=(cap:Int):=Gk;obtain⟨gB,u8⟩:=Gz V4.heap.size;obtain⟨V5,l8⟩:∃ Y,V4.alloc (.cells #[.slice (some ⟨go,0,none⟩) n cap] 149)=Y:=⟨_,rfl⟩;have ao:Below V4.heap.size V4 V5:=by rw[<- l8];exact(Qb _ _).alloc (Qa _) _
 have g8:EnvK 3 25 149 150 39 V5 w.heap.size gX gO gB go n (some ⟨go,0,none⟩) cap L2:=⟨Zc ao i0,Zc ao l4,by rw[<- l8,<- u8];exact QB _ _ _,k7.below ao⟩;have o1:OutK 35 41 V5 W0.heap.size gO n []:=⟨by rw[Qh,QJ];exact Zc ao q8,λr hr=>(by cases hr),List.nodup_nil⟩
 have J:Below W0.heap.size W0 V5:=by
  have hs:=e9.out.size;exact e9.out.trans (((Gs b4 f5).trans (ao.mono (Gs b4 f5).size)).mono hs)
 have w7:W0.heap.size<=gO:=by rw[<- o3];exact e9.out.size
 replace g8:=Za g8;replace o1:=Za o1;replace J:=Za J;replace h6:=Za h6;clear r7 i8 m1 y3 q3 l3 kW kB sV e3 g1 e4 k7 b4 f5 ao l5 q8 b7 b8 q7 l4 v8 k9 i0 l1 g9 qv h7;go_wp2_with fail;(try rw[x7]);(try rw[x9]);(try rw[r8]);(try rw[z8]);refine(Zz1 (some ⟨go,0,none⟩) n cap V4).mono ?_;rintro e w5 ⟨rfl,p8⟩;rw[l8]at p8;subst p8;rw[u8];go_wp2_with fail;refine(wpIn_wide (n:=9)).1 ?_
 refine Zog Gk (gf:=177) (lb:=#[.pointer (some ⟨gB,0,none⟩)]) rfl (enters_of Tryz.func177 Gi rfl)
  (Z0e 8 Gk gB n cap (some ⟨go,0,none⟩) (L2.map RZ.rs) V5 (by rw[g8.out.2.2.1.cell];rfl) (g8.out.sl l2 i9 p0)) KpR.trans (λW l o o' _ h hc _=>KpR.put W l o o' h hc) (Qb _ _) (λ_=>rfl)
  (λk W=>(EnvK 3 25 149 150 39 W w.heap.size gX gO gB go n (some ⟨go,0,none⟩) cap L2/\∃ L:List RF,L.length=k/\L.map RF.q=(Zj2 X n m).drop (n-k)/\OutK 35 41 W W0.heap.size gO (n-k) L)/\Below W0.heap.size W0 W)
  (OwnFrom.and (λk W W' row hs hg hr=>by
   obtain⟨h1,L,h2,h3,h4⟩:=hs;exact⟨h1.own hg (λr e=>(hr r e).2),L,h2,h3,h4.own hg (λr e=>(hr r e).2)⟩) (ownFrom_below (Qa _) J.out.size))
  ⟨⟨g8.out,[],rfl,by rw[Qh,Nat.sub_zero,List.drop_eq_nil_of_le];unfold Zj2;rw[Qc,Ql];exact Qa _,o1.out⟩,J.out⟩
  ?a1 ?assign ?body ?done
 case assign =>
  intro l k W K hk hK;dsimp only[Zn2]
  gi_wp2
  exact hK
 case body =>
  intro l k W hk hI;obtain⟨⟨hE,L,t5,g7,hO⟩,g4⟩:=hI;obtain⟨i,n8⟩:=Gz (n-1-k);have q6:i<n:=Gk;obtain⟨x,hx⟩:=Zb3 (L:=L2) (i:=i) Gk;have n2:rsAt (L2.map RZ.rs) i=x.rs:=by unfold rsAt;rw[Qe,hx];rfl
  have j2:x.q.length=m:=by
   have h1:=(Zk1 n 0 0 (Z6 Q) false 1 i4.out).1;rw[e5.out]at h1;have h2:E'[i]?=some x.q:=by rw[<- g0,Qe,hx];rfl
   have h3:=h1 i (List.getElem?_eq_some_iff.1 h2).1;rw[h2]at h3;exact h3
  (try dsimp only);rw[n8,n2];dsimp only[RS.val,RZ.rs];rw[j2];rw[show n-k=i+1 by omega]at hO g7
  have y6:n-(k+1)=i:=Gk;have u7:Hid (∀ r ∈ L,r.g<W.heap.size):=Za (λr hr=>(hO.2.1 r hr).1.1.lt);have q2:W0.heap.size<=W.heap.size:=g4.size
  have j7:Hid (BunK 3 25 149 150 39 35 41 w.heap.size gX gO gB go n (some ⟨go,0,none⟩) cap L2 W i Za5 [] L W):=Za ⟨hE,by
      have h1:=hO.1;rw[Qy,QE]at h1;exact h1,OwnF.nil _ _ _,λr hr=>(hO.2.1 r hr).1.1,QK _ _⟩
  obtain⟨d1,d2,d3,d4,d5⟩:=hX.out;replace d1:=Za d1;replace d2:=Za d2;replace d3:=Za d3;replace d4:=Za d4;replace d5:=Za d5
  have e8:Hid (∀ j,x.q[j]?.getD 0=Zah E' i j):=Za (λj=>by
   rw[<- g0];unfold Zah;rw[Qe,hx];rfl)
  have nW:=hE.1.cell 0;simp at nW;replace hO:=Za hO;replace hE:=Za hE;replace g7:=Za g7;replace g4:=Za g4;replace n8:=Za n8;replace n2:=Za n2
  gi_wp2_with fail
  clear nW
  gi_loopw [13] (λkv wr=>∃ (t:Nat) (cur:RS),kv=.int .i64 ((n:Int)+(t:Int))/\t<=m-n/\BunK 3 25 149 150 39 35 41 w.heap.size gX gO gB go n (some ⟨go,0,none⟩) cap L2 W i cur ((Qk t).map λc=>X i (n+c)) L wr) (λkv _=>(m-intOf kv).toNat)
  case atStart=>exact⟨0,Za5,by go_num,Nat.zero_le _,j7.out⟩
  case round =>
   clear j7;obtain⟨t,cur,rfl,C1,a9⟩:=hrel;by_cases hlt:t<m-n
   ·skip
    have t2:decide ((n:Int)+(t:Int)<(m:Int))=true:=Gv Gk;have bnt:(0:Int)<=(n:Int)+(t:Int):=Gk;have bnm:(n:Int)+(t:Int)<(m:Int):=Gk;obtain⟨zn,zA,zk,zc,c0,c1,hz⟩:=(a9.1.2.2.2.row hx).1.at_ (i:=n+t) (by rw[j2];omega);rw[e8.out]at hz;have nc:=a9.1.1.cell 0;simp at nc;have e1:((n:Int)+(t:Int)).toNat=n+t:=Gk;replace a9:=Za a9
    gi_wp2_with fail
    have I:Hid (∀ wx,Below wr.heap.size wr wx->wx.cell? ⟨x.g,(n+t)*2,none⟩=some (.bool zn)/\wx.cell? ⟨x.g,(n+t)*2+1,none⟩=some (.slice zA zk zc)):=Za (λwx u=>⟨Zb u c0,Zb u c1⟩);have O:Below wr.heap.size wr wr.drew:=Zf (Qb _ _) 1;refine Zyy [] hmx Gi I O (λhxs=>?_);refine Zke 4 [0,1,2,3] rfl Gi (I.out _ O) ?_
    iterate 4 (refine tkA ?_;try simp only[Qd,Zhf,Zgs,Zg9,Gr,Gq,Gp])
    refine tk0 ?_;refine Za8 [(4,56),(5,57),(6,51),(7,58),(9,14)] (λi=>match i with|6=>[8]|_=>[]) [(4,56),(5,57),(6,51),(8,59),(7,58),(9,14)] (Zbn wr.heap.size ((Zah E' i (n+t)):Rat) 4 5 6 7 8 9 8) 2 Gi (λ_ _ _ _ _ hb h=>Zh2 hb h) (λwx h=>I.out _ (Gs O h)) ?hop1 ?hfin1
    case hop1 =>
     intro p hp;simp only[Qq,Qn,or_false]at hp;simp only[Qi,Qh,Zap,Qd,Zhf,Zgs,Zg9];rcases hp with rfl|rfl|rfl|rfl|rfl;exact ES
     ·intro ν wx hb hP
      have u:=Gs O hb;have h0:=hP (4,56) Gh Gi;simp only[Zbn]at h0;obtain⟨D0,e0,f0,hν,hN⟩:=h0;rw[hν];refine Zm (i:=5) rfl (λK hK=>?_);go_simp;refine(Zgo zn zA D0 zk zc e0 f0 (Zah E' i (n+t)) 1 wx (hz.below u) hN Gj).mono ?_;exact Fv
     ·intro ν wx hb hP
      have h0:=hP (5,57) Gh Gi;exact Ea
     ·intro ν wx hb hP
      have h0:=hP (6,51) Gh Gi;exact EM
     exact EC
    case hfin1 =>
     intro ν wx hb hP;have h9:=hP (4,56) Gh;have h0:=hP (5,57) Gh;have h1:=hP (6,51) Gh;have h2:=hP (7,58) Gh;have h3:=hP (8,59) Gh;have h4:=hP (9,14) Gh;simp only[Zbn,Za1]at h9 h0 h1 h2 h4;obtain⟨y0,y1,y2,h9,-⟩:=h9;obtain⟨a0,a1,a2,a3,a4,a5,a6,a7,h0,-⟩:=h0;obtain⟨n5,p1,o8,p4,m0,n4,o4,p3,h1,-⟩:=h1;obtain⟨ssn,m8,ssk,ssc,ssm,o6,ssj,ssd,h2,ssf⟩:=h2;obtain⟨gss,h4,kv,qv⟩:=h4;simp only[Qi,Qh,Zap,Qd,Zhf,Zgs,Zg9];rw[h9,h0,h1,h2,(show ν 59=Value.int .i64 0 by simpa [Zbn,Za1]using h3),h4];clear h9 h0 h1 h2 h3 h4 hP ν;have u:=Gs O hb;have C:=qv.four;have b0:wr.heap.size<=gss:=kv;refine(Z7 ssn m8 ssk ssc ssm o6 ssj ssd u b0 qv).elim (λZss hq=>?_);have c0:=C.1;have f4:=C.2.1;have e7:=C.2.2.1;have c3:=C.2.2.2.1;have f0:=C.2.2.2.2.1;have f1:=C.2.2.2.2.2.1;have f2:=C.2.2.2.2.2.2.1;have f3:=C.2.2.2.2.2.2.2;have hZ:=hq.1;refine wpAnyL_o 10 λK hK=>?_;go_simp;(try rw[hZ]);refine hK.out _ _ (λ_=>I.out _ hq.2.1) ?_;clear hK K
     try simp only[Qd,Zhf,Zgs,Zg9]
     refine Zgt 1 [11] rfl Gi (I.out _ hq.2.1) ?_
     (refine tkA ?_;try simp only[Qd,Zhf,Zgs,Zg9,Gr,Gq,Gp])
     refine tk0 ?_;refine wpAnyL_fin ?_;have o9:=hq.2.1;have ssb:=Za hq.2.2.1;have i1:Hid (wr.heap.size<=gss):=Za b0;replace ssf:=Za (Fr.keep ssf hq.2.2.2.1);clear hq hZ c0 f4 e7 c3 f0 f1 f2 f3 C qv kv b0 u hb O I hxs;have c9:=a9.out.below o9;have f9:Fr Zss ssn m8 ssk ssc ssm o6 ssj ssd (upS (λi j=>(Zah E' i j:Rat)) X i (n+t) (i+1)):=by rw[Zub _ _ _ _ _ (Qa _)];exact ssf.out
     have j8:Hid (∀ r ∈ L,r.g≠gss):=Za (λr hr e=>by
      have a1:=u7.out r hr;have a2:=a9.out.2.2.2.2.size;have a3:=i1.out;omega)
     have h5:Hid (cur.val.ownBlock≠some gss):=Za (λe=>by
      obtain⟨cs,a1,-,-⟩:=a9.out.2.2.1.ownBlk _ e;have a2:=a1.lt;have a3:=i1.out;omega)
     have l0:Hid (W.heap.size<=gss):=Za (Qs a9.out.2.2.2.2.size i1.out);have A4:Hid (∀ k,k=gss->∃ t cs,Blk Zss k t cs/\NoLimb cs):=Za (λk hk=>⟨_,_,hk▸ssb.out,Zeu _ _ _ _ _ _ _ _⟩);have z6:Hid (∀ W',Kept (λk=>k=gss) Zss W'->BunK 3 25 149 150 39 35 41 w.heap.size gX gO gB go n (some ⟨go,0,none⟩) cap L2 W i cur ((Qk t).map λc=>X i (n+c)) L W'):=Za (λW' hk=>c9.turn l6.out g2 ssb.out (Zeu _ _ _ _ _ _ _ _) j8.out h5.out l0.out hk);replace f9:=Za f9;replace c9:=Za c9;clear ssf c0 c1 nc hz a9 c9
     gi_wp2_with fail
     gi_loopw [16] (λjv wx=>∃ (j:Nat) (sn:Bool) (sA:Option Addr) (sk sc:Nat) (sm:Bool) (sB:Option Addr) (sj sd:Nat),jv=.int .i64 j/\i+1<=j/\j<=n/\Blk wx gss 41 #[.bool sn,.slice sA sk sc,.bool sm,.slice sB sj sd]/\Fr wx sn sA sk sc sm sB sj sd (upS (λi j=>(Zah E' i j:Rat)) X i (n+t) j)/\Kept (λk=>k=gss) Zss wx) (λjv _=>(n-intOf jv).toNat)
     case atStart=>exact⟨i+1,ssn,m8,ssk,ssc,ssm,o6,ssj,ssd,by go_num,Qa _,by omega,ssb.out,f9.out,QK _ _⟩
     case round =>
      clear f9 ssb;obtain⟨j,sn,sA,sk,sc,sm,sB,sj,sd,rfl,A9,B4,qs,d9,e2⟩:=hrel;have J:=z6.out _ e2;by_cases hjn':j<n
      ·skip
       have t3:decide ((j:Int)<(n:Int))=true:=Gv Gk;have C0:(0:Int)<=(j:Int):=Gk;have bjn:(j:Int)<(n:Int):=Gk;have bjm:(j:Int)<(m:Int):=Gk;have ej:((j:Nat):Int).toNat=j:=Gk;obtain⟨zn,zA,zk,zc,c0,c1,hz⟩:=(J.1.2.2.2.row hx).1.at_ (i:=j) (by rw[j2];omega);rw[e8.out]at hz;have nc:=J.1.1.cell 0;simp at nc;replace J:=Za J;replace qs:=Za qs;replace d9:=Za d9;replace e2:=Za e2
       gi_wp2_with fail
       have c4:Hid (∀ wx,Below wr.heap.size wr wx->wx.cell? ⟨x.g,(j)*2,none⟩=some (.bool zn)/\wx.cell? ⟨x.g,(j)*2+1,none⟩=some (.slice zA zk zc)):=Za (λwx u=>⟨Zb u c0,Zb u c1⟩);have T:Below wr.heap.size wr wr.drew:=Zf (Qb _ _) 1;refine Zyy [] hmx Gi c4 T (λhxs=>?_);refine Zke 4 [0,1,2,3] rfl Gi (c4.out _ T) ?_
       iterate 4 (refine tkA ?_;try simp only[Qd,Zhf,Zgs,Zg9,Gr,Gq,Gp])
       refine tk0 ?_;refine Za8 [(4,72),(5,73),(6,67),(7,74),(9,17)] (λi=>match i with|6=>[8]|_=>[]) [(4,72),(5,73),(6,67),(8,75),(7,74),(9,17)] (Zbn wr.heap.size ((Zah E' i j):Rat) 4 5 6 7 8 9 8) 2 Gi (λ_ _ _ _ _ hb h=>Zh2 hb h) (λwx h=>c4.out _ (Gs T h)) ?hop2 ?hfin2
       case hop2 =>
        intro p hp;simp only[Qq,Qn,or_false]at hp;simp only[Qi,Qh,Zap,Qd,Zhf,Zgs,Zg9];rcases hp with rfl|rfl|rfl|rfl|rfl;exact ES
        ·intro ν wx hb hP
         have u:=Gs T hb;have h0:=hP (4,72) Gh Gi;simp only[Zbn]at h0;obtain⟨D0,e0,f0,hν,hN⟩:=h0;rw[hν];refine Zm (i:=5) rfl (λK hK=>?_);go_simp;refine(Zgo zn zA D0 zk zc e0 f0 (Zah E' i j) 1 wx (hz.below u) hN Gj).mono ?_;exact Fv
        ·intro ν wx hb hP
         have h0:=hP (5,73) Gh Gi;exact Ea
        ·intro ν wx hb hP
         have h0:=hP (6,67) Gh Gi;exact EM
        exact EC
       case hfin2 =>
        intro ν wx hb hP;have h9:=hP (4,72) Gh;have h0:=hP (5,73) Gh;have h1:=hP (6,67) Gh;have h2:=hP (7,74) Gh;have h3:=hP (8,75) Gh;have h4:=hP (9,17) Gh;simp only[Zbn,Za1]at h9 h0 h1 h2 h4;obtain⟨y0,y1,y2,h9,-⟩:=h9;obtain⟨a0,a1,a2,a3,a4,a5,a6,a7,h0,-⟩:=h0;obtain⟨n5,p1,o8,p4,m0,n4,o4,p3,h1,-⟩:=h1;obtain⟨ccn,l7,cck,ccc,ccm,m7,ccj,ccd,h2,ccf⟩:=h2;obtain⟨gcc,h4,kv,qv⟩:=h4;simp only[Qi,Qh,Zap,Qd,Zhf,Zgs,Zg9];rw[h9,h0,h1,h2,(show ν 75=Value.int .i64 0 by simpa [Zbn,Za1]using h3),h4];clear h9 h0 h1 h2 h3 h4 hP ν;have u:=Gs T hb;have C:=qv.four;have b0:wr.heap.size<=gcc:=kv;refine(Z7 ccn l7 cck ccc ccm m7 ccj ccd u b0 qv).elim (λZcc hq=>?_);have c0:=C.1;have f4:=C.2.1;have e7:=C.2.2.1;have c3:=C.2.2.2.1;have f0:=C.2.2.2.2.1;have f1:=C.2.2.2.2.2.1;have f2:=C.2.2.2.2.2.2.1;have f3:=C.2.2.2.2.2.2.2;have hZ:=hq.1;refine wpAnyL_o 10 λK hK=>?_;go_simp;(try rw[hZ]);refine hK.out _ _ (λ_=>c4.out _ hq.2.1) ?_;clear hK K
        try simp only[Qd,Zhf,Zgs,Zg9]
        refine Zgt 1 [11] rfl Gi (c4.out _ hq.2.1) ?_
        (refine tkA ?_;try simp only[Qd,Zhf,Zgs,Zg9,Gr,Gq,Gp])
        refine tk0 ?_;refine wpAnyL_fin ?_;have b2:=hq.2.1;have ccb:=Za hq.2.2.1;have A7:Hid (wr.heap.size<=gcc):=Za b0;replace ccf:=Za (Fr.keep ccf hq.2.2.2.1);clear hq hZ c0 f4 e7 c3 f0 f1 f2 f3 C qv kv b0 u hb T c4 hxs;have a8:=J.out.below b2;have j1:=e2.out.below b2;have b5:=Zc b2 qs.out;have b1:=d9.out.below b2;obtain⟨y,hy⟩:=Zb3 (L:=L) (i:=j-(i+1)) (by have:=congrArg QF g7.out;rw[Qc,List.length_drop]at this;unfold Zj2 at this;rw[Qc,Ql]at this;omega);obtain⟨p2,v6⟩:=Z03 hjn' hlt g7.out Gk hy;obtain⟨⟨-,y7,y9⟩,-⟩:=hO.out.2.1 y (Qp hy);rw[p2]at y7;unfold maxLen at y9
        have t6:(Qg i Za5++cur::L.map RF.rs)[j]?=some y.rs:=by
         rw[Qm (by rw[Qf];omega),Qf,show j-i=j-(i+1)+1 by omega,List.getElem?_cons_succ,Qe,hy];rfl
        have k0:=a8.1.1.cell 0;simp at k0;have k1:=a8.1.2.1.cell 0;simp at k1;have k2:=a8.2.1.cell j;rw[Zb6 t6]at k2;simp only[RF.rs]at k2;rw[p2]at k2;obtain⟨n3,A3,k3,c3,m3,B3,j3,s8,r0,r1,r2,r3,o7⟩:=(a8.2.2.2.1 y (Qp hy)).at_ (i:=t) (by rw[p2];exact hlt);rw[v6]at o7;obtain⟨u0,u1,u2,u3,-⟩:=ccb.out.four;have j0:=(d3.out i j).sm Gj Gj;have i5:=(d4.out j (n+t)).sm Gj Gj;have v9:Hid (SmN 600 600 ((Zah E' i j:Rat)*X j (n+t))):=Za ((d3.out i j).mulN (d4.out j (n+t)));have B2:(0:Int)<=(t:Int):=Gk;have btm:(t:Int)<((m-n:Nat):Int):=Gk;have et:(n:Int)+(t:Int)-(n:Int)=(t:Int):=Gk;have B1:((t:Nat):Int).toNat=t:=Gk;have B7:IntKind.i64.wrap (t:Int)=(t:Int):=by rw[IntKind.wrap_i64];omega
        replace a8:=Za a8;replace j1:=Za j1;replace b5:=Za b5;replace b1:=Za b1;clear c0 c1 nc hz t6 J e2 qs d9
        gi_wp2_with fail
        have c2:Hid (∀ wx,Below Zcc.heap.size Zcc wx->wx.cell? ⟨gcc,0,none⟩=some (.bool ccn)/\wx.cell? ⟨gcc,1,none⟩=some (.slice l7 cck ccc)/\wx.cell? ⟨gcc,2,none⟩=some (.bool ccm)/\wx.cell? ⟨gcc,3,none⟩=some (.slice m7 ccj ccd)/\wx.cell? ⟨gX,0,none⟩=some (.slice (some ⟨gO,0,none⟩) n n)/\wx.cell? ⟨w.heap.size,0,none⟩=some (.int .i64 n)/\wx.cell? ⟨gO,j,none⟩=some (.slice (some ⟨y.g,0,none⟩) (m-n) y.c)/\wx.cell? ⟨y.g,t*4,none⟩=some (.bool n3)/\wx.cell? ⟨y.g,t*4+1,none⟩=some (.slice A3 k3 c3)/\wx.cell? ⟨y.g,t*4+2,none⟩=some (.bool m3)/\wx.cell? ⟨y.g,t*4+3,none⟩=some (.slice B3 j3 s8)):=Za (λwx u=>⟨Zb u u0,Zb u u1,Zb u u2,Zb u u3,Zb u k1,Zb u k0,Zb u k2,Zb u r0,Zb u r1,Zb u r2,Zb u r3⟩);have c7:Below Zcc.heap.size Zcc Zcc.drew:=Zf (Qb _ _) 1;refine Zyy [] hmx Gi c2 c7 (λhxs3=>?_);refine Zke 10 [0,1,2,3,4,5,6,7,8,9] rfl Gi (c2.out _ c7) ?_
        iterate 10 (refine tkA ?_;try simp only[Qd,Zhf,Zgs,Zg9,Gr,Gq,Gp])
        refine tk0 ?_;refine Za8 [(10,87),(11,76),(12,88),(14,19)] (λi=>match i with|11=>[13]|_=>[]) [(10,87),(11,76),(13,89),(12,88),(14,19)] (Za1 Zcc.heap.size ((Zah E' i j:Rat)*X j (n+t)) 10 11 12 13 14 13) 2 Gi (λ_ _ _ _ _ hb h=>Zhu hb h) (λwx h=>c2.out _ (Gs c7 h)) ?hop3 ?hfin3
        case hop3 =>
         intro p hp;simp only[Qq,Qn,or_false]at hp;simp only[Qi,Qh,Zap,Qd,Zhf,Zgs,Zg9];rcases hp with rfl|rfl|rfl|rfl
         ·intro ν wx hb hP
          have u:=Gs c7 hb;refine Zm (i:=10) rfl (λK hK=>?_);go_simp;refine(Zxw ccn ccm n3 m3 l7 m7 A3 B3 cck ccc ccj ccd k3 c3 j3 s8 _ _ wx (ccf.out.below u) (o7.below u) j0 i5).mono ?_;rintro e w5 ⟨ao,cu,A5,k5,c5,ee,B5,m5,d5,rfl,ax⟩;exact hK.out _ _ ⟨_,rfl,(by simp only[Za1];exact⟨_,_,_,_,_,_,_,_,rfl,ax⟩),ao,trivial⟩
         ·intro ν wx hb hP
          have h0:=hP (10,87) Gh Gi;simp only[Za1]at h0;obtain⟨cu,A5,k5,c5,ee,B5,m5,d5,hν,ax⟩:=h0;rw[hν];refine Zm (i:=11) rfl (λK hK=>?_);go_simp;refine hK.out _ _ ⟨_,rfl,(by simp only[Za1];exact⟨_,_,_,_,_,_,_,_,rfl,ax⟩),Qb _ _,?_⟩;exact⟨_,.int .i64 0,rfl,Or.inl ⟨by kernel_rfl,λW2 _=>by go_simp⟩,by simp[Za1],trivial⟩
         ·intro ν wx hb hP
          have h0:=hP (11,76) Gh Gi;simp only[Za1]at h0;obtain⟨cu,A5,k5,c5,ee,B5,m5,d5,hν,ax⟩:=h0;rw[hν];refine Zm (i:=12) rfl (λK hK=>?_);go_simp;exact hK.out _ _ ⟨_,rfl,(by simp only[Za1];exact⟨_,_,_,_,_,_,_,_,rfl,ax⟩),Qb _ _,trivial⟩
         intro ν wx hb hP;refine Zm (i:=14) rfl (λK hK=>?_);go_simp;exact hK.out _ _ ⟨_,rfl,(by simp only[Za1];exact⟨_,rfl,hb.size,QB _ _ _⟩),(Qb _ _).alloc (Qa _) _,trivial⟩
        case hfin3 =>
         intro ν wx hb hP;have h0:=hP (10,87) Gh;have h1:=hP (11,76) Gh;have h2:=hP (12,88) Gh;have h3:=hP (13,89) Gh;have h4:=hP (14,19) Gh;simp only[Za1]at h0 h1 h2 h4;obtain⟨a0,a1,a2,a3,a4,a5,a6,a7,h0,-⟩:=h0;obtain⟨n5,p1,o8,p4,m0,n4,o4,p3,h1,-⟩:=h1;obtain⟨wwn,r4,wwk,wwc,wwm,r6,wwj,wwd,h2,wwf⟩:=h2;obtain⟨gww,h4,kv,qv⟩:=h4;simp only[Qi,Qh,Zap,Qd,Zhf,Zgs,Zg9];rw[h0,h1,h2,(show ν 89=Value.int .i64 0 by simpa [Za1]using h3),h4];clear h0 h1 h2 h3 h4 hP ν;have u:=Gs c7 hb;have C:=qv.four;have b0:Zcc.heap.size<=gww:=kv;refine(Z7 wwn r4 wwk wwc wwm r6 wwj wwd u b0 qv).elim (λZww hq=>?_);have c0:=C.1;have f4:=C.2.1;have e7:=C.2.2.1;have c3:=C.2.2.2.1;have f0:=C.2.2.2.2.1;have f1:=C.2.2.2.2.2.1;have f2:=C.2.2.2.2.2.2.1;have f3:=C.2.2.2.2.2.2.2;have hZ:=hq.1;refine wpAnyL_o 15 λK hK=>?_;go_simp;(try rw[hZ]);refine hK.out _ _ (λ_=>c2.out _ hq.2.1) ?_;clear hK K
         try simp only[Qd,Zhf,Zgs,Zg9]
         refine Zgt 1 [16] rfl Gi (c2.out _ hq.2.1) ?_
         (refine tkA ?_;try simp only[Qd,Zhf,Zgs,Zg9,Gr,Gq,Gp])
         refine tk0 ?_;refine wpAnyL_fin ?_;have b3:=hq.2.1;have wwb:=Za hq.2.2.1;replace wwf:=Za (Fr.keep wwf hq.2.2.2.1);clear hq hZ c0 f4 e7 c3 f0 f1 f2 f3 C qv kv u hb c7 c2 hxs3;have q4:=a8.out.below b3;have n1:=j1.out.below b3;have i7:=Zc b3 b5.out;have j9:=b1.out.below b3;have o5:=(d5.out i (n+t) j).sm Gj Gj;have x4:=v9.out.sm Gj Gj;obtain⟨s0,s1,s2,s3,-⟩:=i7.four;obtain⟨v0,v1,v2,v3,-⟩:=wwb.out.four;replace q4:=Za q4;replace n1:=Za n1;replace i7:=Za i7;clear r0 r1 r2 r3 u0 u1 u2 u3 k0 k1 k2 j0 i5 a8 j1 b5 b1 o7 ccf ccb b2 b3
         gi_wp2_with fail
         refine⟨trivial,?_⟩;refine(CallsIn.inRound l (callsIn_wide.2 (Zxu sn sm wwn wwm sA sB r4 r6 sk sc sj sd wwk wwc wwj wwd _ _ Zww j9 wwf.out o5 x4))).mono ?_;rintro e w8 ⟨f6,n6,A6,k6,c6,m6,B6,j6,d6,rfl,f8⟩;rw[<- Zr4 (λi j=>(Zah E' i j:Rat)) X (i:=i) (k:=n+t) (t:=j) Gk]at f8;have e6:=Zc f6 i7.out;have p7:=n1.out.below f6;obtain⟨W9,f7,y5,q9,i2,-,s9⟩:=Z7 (B:=gss) n6 A6 k6 c6 m6 B6 j6 d6 (Qb gss w8) (Qa _) e6;have o0:=Za (Fr.keep f8 i2)
         have w4:Hid (Kept (λk=>k=gss) Zss W9):=Za (by
          rw[<- f7];exact((((p7.set_ (p:=⟨gss,0,none⟩) (.inl rfl) _).set_ (p:=⟨gss,1,none⟩) (.inl rfl) _).set_ (p:=⟨gss,2,none⟩) (.inl rfl) _).set_ (p:=⟨gss,3,none⟩) (.inl rfl) _))
         replace q9:=Za q9;clear s0 s1 s2 s3 v0 v1 v2 v3 j9 f8 f6 i2 p7;obtain⟨s0,s1,s2,s3,s4,s5,m9,s7⟩:=e6.four
         gi_wp2_with fail
         (try rw[f7]);clear s0 s1 s2 s3 s4 s5 m9 s7 f7 e6
         go_roundw
         case measure=>simp[intOf];omega
         case rel=>exact⟨j+1,n6,A6,k6,c6,m6,B6,j6,d6,by go_num,by omega,by omega,q9.out,o0.out,w4.out⟩
      obtain rfl:j=n:=Gk;have t3:decide ((j:Int)<(j:Int))=false:=Gh;have A8:(0:Int)<=(i:Int):=Gk;have bim:(i:Int)<(m:Int):=Gk;have bij:(i:Int)<(j:Int):=Gk;have ei:((i:Nat):Int).toNat=i:=Gk;obtain⟨zn,zA,zk,zc,c0,c1,hz⟩:=(J.1.2.2.2.row hx).1.at_ (i:=i) (by rw[j2];omega);rw[e8.out]at hz;have nc:=J.1.1.cell 0;simp at nc;replace J:=Za J;replace qs:=Za qs;replace d9:=Za d9;replace e2:=Za e2
      gi_wp2_with fail
      have b6:Hid (∀ wx,Below wr.heap.size wr wx->wx.cell? ⟨x.g,(i)*2,none⟩=some (.bool zn)/\wx.cell? ⟨x.g,(i)*2+1,none⟩=some (.slice zA zk zc)):=Za (λwx u=>⟨Zb u c0,Zb u c1⟩);have c8:Below wr.heap.size wr wr.drew:=Zf (Qb _ _) 1;refine Zyy [] hmx Gi b6 c8 (λhxs=>?_);refine Zke 4 [0,1,2,3] rfl Gi (b6.out _ c8) ?_
      iterate 4 (refine tkA ?_;try simp only[Qd,Zhf,Zgs,Zg9,Gr,Gq,Gp])
      refine tk0 ?_;refine Za8 [(4,101),(5,102),(6,96),(7,103),(9,21)] (λi=>match i with|6=>[8]|_=>[]) [(4,101),(5,102),(6,96),(8,104),(7,103),(9,21)] (Zbn wr.heap.size ((Zah E' i i):Rat) 4 5 6 7 8 9 8) 2 Gi (λ_ _ _ _ _ hb h=>Zh2 hb h) (λwx h=>b6.out _ (Gs c8 h)) ?hop4 ?hfin4
      case hop4 =>
       intro p hp;simp only[Qq,Qn,or_false]at hp;simp only[Qi,Qh,Zap,Qd,Zhf,Zgs,Zg9];rcases hp with rfl|rfl|rfl|rfl|rfl;exact ES
       ·intro ν wx hb hP
        have u:=Gs c8 hb;have h0:=hP (4,101) Gh Gi;simp only[Zbn]at h0;obtain⟨D0,e0,f0,hν,hN⟩:=h0;rw[hν];refine Zm (i:=5) rfl (λK hK=>?_);go_simp;refine(Zgo zn zA D0 zk zc e0 f0 (Zah E' i i) 1 wx (hz.below u) hN Gj).mono ?_;exact Fv
       ·intro ν wx hb hP
        have h0:=hP (5,102) Gh Gi;exact Ea
       ·intro ν wx hb hP
        have h0:=hP (6,96) Gh Gi;exact EM
       exact EC
      case hfin4 =>
       intro ν wx hb hP;have h9:=hP (4,101) Gh;have h0:=hP (5,102) Gh;have h1:=hP (6,96) Gh;have h2:=hP (7,103) Gh;have h3:=hP (8,104) Gh;have h4:=hP (9,21) Gh;simp only[Zbn,Za1]at h9 h0 h1 h2 h4;obtain⟨y0,y1,y2,h9,-⟩:=h9;obtain⟨a0,a1,a2,a3,a4,a5,a6,a7,h0,-⟩:=h0;obtain⟨n5,p1,o8,p4,m0,n4,o4,p3,h1,-⟩:=h1;obtain⟨ddn,t7,ddk,ddc,ddm,t4,ddj,ddd,h2,ddf⟩:=h2;obtain⟨gdd,h4,kv,qv⟩:=h4;simp only[Qi,Qh,Zap,Qd,Zhf,Zgs,Zg9];rw[h9,h0,h1,h2,(show ν 104=Value.int .i64 0 by simpa [Zbn,Za1]using h3),h4];clear h9 h0 h1 h2 h3 h4 hP ν;have u:=Gs c8 hb;have C:=qv.four;have b0:wr.heap.size<=gdd:=kv;refine(Z7 ddn t7 ddk ddc ddm t4 ddj ddd u b0 qv).elim (λZdd hq=>?_);have c0:=C.1;have f4:=C.2.1;have e7:=C.2.2.1;have c3:=C.2.2.2.1;have f0:=C.2.2.2.2.1;have f1:=C.2.2.2.2.2.1;have f2:=C.2.2.2.2.2.2.1;have f3:=C.2.2.2.2.2.2.2;have hZ:=hq.1;refine wpAnyL_o 10 λK hK=>?_;go_simp;(try rw[hZ]);refine hK.out _ _ (λ_=>b6.out _ hq.2.1) ?_;clear hK K
       try simp only[Qd,Zhf,Zgs,Zg9]
       refine Zgt 1 [11] rfl Gi (b6.out _ hq.2.1) ?_
       (refine tkA ?_;try simp only[Qd,Zhf,Zgs,Zg9,Gr,Gq,Gp])
       refine tk0 ?_;refine wpAnyL_fin ?_;have d7:=hq.2.1;have ddb:=Za hq.2.2.1;have A2:Hid (wr.heap.size<=gdd):=Za b0;replace ddf:=Za (Fr.keep ddf hq.2.2.2.1);clear hq hZ c0 f4 e7 c3 f0 f1 f2 f3 C qv kv b0 u hb c8 b6 hxs;have a8:=J.out.below d7;have b5:=Zc d7 qs.out;have b1:=d9.out.below d7;obtain⟨s0,s1,s2,s3,-⟩:=b5.four;obtain⟨v0,v1,v2,v3,-⟩:=ddb.out.four;have j0:=(d5.out i (j+t) j).sm Gj Gj;have i5:=(d3.out i i).sm Gj Gj;have o5:=d1.out i q6;replace a8:=Za a8;replace b5:=Za b5;clear c0 c1 nc hz J e2 qs d9 d7
       gi_wp2_with fail
       refine⟨trivial,?_⟩;refine(CallsIn.inRound l (callsIn_wide.2 (Ztc sn sm ddn ddm sA sB t7 t4 sk sc sj sd ddk ddc ddj ddd _ _ Zdd b1 ddf.out j0 i5 o5))).mono ?_;rintro e w8 ⟨f6,n6,A6,k6,c6,m6,B6,j6,d6,rfl,f8⟩;rw[show upS (λi j=>(Zah E' i j:Rat)) X i (j+t) j/(Zah E' i i:Rat)=X i (j+t) from(d2.out i (j+t) q6 Gk Gk).symm]at f8;have t8:=a8.out.below f6;have e6:=Zc f6 b5.out;obtain⟨W9,f7,y5,q9,i2,-,s9⟩:=Z7 (B:=gss) n6 A6 k6 c6 m6 B6 j6 d6 (Qb gss w8) (Qa _) e6;have o0:=Za (Fr.keep f8 i2)
       have r5:Kept (λk=>k=gss) w8 W9:=by
        rw[<- f7];exact(((((QK (λk=>k=gss) w8).set_ (p:=⟨gss,0,none⟩) (.inl rfl) _).set_ (p:=⟨gss,1,none⟩) (.inl rfl) _).set_ (p:=⟨gss,2,none⟩) (.inl rfl) _).set_ (p:=⟨gss,3,none⟩) (.inl rfl) _)
       have b9:=t8.turn l6.out g2 e6 (Zeu _ _ _ _ _ _ _ _) j8.out h5.out l0.out r5;replace q9:=Za q9;clear s0 s1 s2 s3 v0 v1 v2 v3 b1 f8 f6 i2 a8 t8 r5 ddf ddb b5;obtain⟨s0,s1,s2,s3,s4,s5,m9,s7⟩:=e6.four;have kO:=b9.2.1.cell i;rw[Zb6 (e:=cur) (by rw[Qm (by rw[Qf];exact Qa _),Qf,Qt];rfl)]at kO;have kX:=b9.1.2.1.cell 0;simp at kX;have kz:=b9.2.1.frozen i;replace b9:=Za b9
       gi_wp2_with fail
       (try rw[f7]);clear s0 s1 s2 s3 s4 s5 m9 s7 f7 e6;obtain⟨x0,x1,x2,x3,-⟩:=q9.out.four;obtain⟨X0,n7⟩:=Gz W9.drew
       have O:Below W9.heap.size W9 X0:=by rw[<- n7];exact Zf (Qb _ _) 1
       have I:Hid (∀ wx,Below W9.heap.size W9 wx->wx.cell? ⟨gX,0,none⟩=some (.slice (some ⟨gO,0,none⟩) j j)/\wx.cell? ⟨gO,i,none⟩=some (.slice cur.A cur.n cur.c)/\wx.cell? ⟨gss,0,none⟩=some (.bool n6)/\wx.cell? ⟨gss,1,none⟩=some (.slice A6 k6 c6)/\wx.cell? ⟨gss,2,none⟩=some (.bool m6)/\wx.cell? ⟨gss,3,none⟩=some (.slice B6 j6 d6)):=Za (λwx u=>⟨Zb u kX,Zb u kO,Zb u x0,Zb u x1,Zb u x2,Zb u x3⟩);refine Zyy [10] hmx Gi I (by rw[n7];exact O) (λhxs=>?_);rw[n7];refine Zke 7 [0,1,2,3,4,5,6] rfl Gi (I.out _ O) ?_
       iterate 7 (refine tkA ?_;try simp only[Qd,Zhf,Zgs,Zg9,Gr,Gq,Gp])
       refine tk0 ?_;obtain⟨Y1,i6⟩:=Gz (X0.alloc (.cells #[.bool n6,.slice A6 k6 c6,.bool m6,.slice B6 j6 d6] 41));obtain⟨ga,m2⟩:=Gz X0.heap.size;have u6:Below X0.heap.size X0 Y1:=by rw[<- i6];exact(Qb _ _).alloc (Qa _) _
       have p9:Blk Y1 ga 41 #[.bool n6,.slice A6 k6 c6,.bool m6,.slice B6 j6 d6]:=by rw[<- i6,<- m2];exact QB _ _ _
       have T:Below W9.heap.size W9 Y1:=Gs O u6;refine wpAnyL_o 7 λK hK=>?_;go_simp;(try rw[i6]);(try rw[m2]);refine hK.out _ _ (λ_=>I.out _ T) ?_;clear hK K i6 m2
       try simp only[Qd,Zhf,Zgs,Zg9]
       have U:=b9.out.below T;have p5:=o0.out.below T;have v7:=U.2.2.2.2.size;refine wpAnyL_o 8 λK hK=>?_;rw[Gx Gd];refine Zhs _ (.tmp 116) (.tmp 118) 35 rfl W.heap.size 41 iF Tryz.underlying35 hi y8 A1 x6 cur.val ((Qk t).map λc=>X i (j+c)) rfl U.2.2.1 _ (some ⟨ga,0,none⟩) 1 1 [⟨n6,A6,k6,c6,m6,B6,j6,d6,X i (j+t)⟩] rfl (Zb9 _ p9) rfl (by intro e he;rw[QA]at he;subst he;exact p5) Gg v7 ?_;intro v2 Y2 bH j5 r9
       obtain⟨nA,nn,nc,rfl⟩:∃ A n c,v2=.slice A n c:=by
        exact Cp
       have k8:OwnF 41 Y2 W.heap.size (RS.val ⟨nA,nn,nc⟩) ((Qk (t+1)).map λc=>X i (j+c)):=by
        rw[List.range_succ,List.map_append];exact bH
       have h8:=U.2.2.1.ownBlk
       have j4:Y2.cell? ⟨gX,0,none⟩=some (.slice (some ⟨gO,0,none⟩) j j)/\Y2.cell? ⟨gO,i,none⟩=some (.slice cur.A cur.n cur.c)/\Y2.cell? ⟨gss,0,none⟩=some (.bool n6)/\Y2.cell? ⟨gss,1,none⟩=some (.slice A6 k6 c6)/\Y2.cell? ⟨gss,2,none⟩=some (.bool m6)/\Y2.cell? ⟨gss,3,none⟩=some (.slice B6 j6 d6):=by
        have f:∀ (g o:Nat) (v:Value),g<W.heap.size \/ g=gO \/ g=gss->Y1.cell? ⟨g,o,none⟩=some v->Y2.cell? ⟨g,o,none⟩=some v:=λg o v hgg hv=>by
         rw[<- hv];refine World.cell?_of_block (j5.block g (Zo hv) (λe=>?_));obtain⟨cs,a1,-,a2⟩:=h8 g e.symm;rcases hgg with h1|h1|h1;omega;subst h1;exact g2 (U.2.1.type a1);subst h1;exact h5.out e.symm
        have t9:gX<W.heap.size:=hE.out.2.1.lt;obtain⟨a0,a1,a2,a3,a4,a5⟩:=I.out _ T;exact⟨f _ _ _ (.inl t9) a0,f _ _ _ (.inr (.inl rfl)) a1,f _ _ _ (.inr (.inr rfl)) a2,f _ _ _ (.inr (.inr rfl)) a3,f _ _ _ (.inr (.inr rfl)) a4,f _ _ _ (.inr (.inr rfl)) a5⟩
       refine hK.out _ _ (λ_=>j4) ?_;clear hK K
       try simp only[Qd,Zhf,Zgs,Zg9]
       have n9:=Za (U.app l6.out z5.out g2 u7.out (cur':=⟨nA,nn,nc⟩) j5 k8 r9);have w3:=j4.2.1
       have A0:Y2.frozen? ⟨gO,i,none⟩=false:=by
        rw[World.frozen?_of_block (j5.block gO U.2.1.lt (λe=>by
         obtain⟨cs,a1,-,-⟩:=h8 gO e.symm;exact g2 (U.2.1.type a1)))]
        exact U.2.1.frozen i
       refine Zgt 1 [9] rfl Gi j4 ?_
       (refine tkA ?_;try simp only[Qd,Zhf,Zgs,Zg9,Gr,Gq,Gp])
       refine tk0 ?_;clear j4 bH k8 h8 U p5 p9 u6 T;refine Zu (i:=10) rfl Gi Gi (λK hK=>?_);go_simp;refine hK.out _ _ ?_;clear hK K
       try simp only[Qd,Zhf,Zgs,Zg9]
       refine wpAnyL_fin ?_;clear w3 A0 hxs I O kX kO kz x0 x1 x2 x3 j5 r9
       gi_wp2_with fail
       go_roundw
       case measure=>simp[intOf];omega
       case rel=>exact⟨t+1,⟨nA,nn,nc⟩,by go_num,by omega,n9.out⟩
   obtain rfl:t=m-n:=Gk;have t2:decide ((n:Int)+((m-n:Nat):Int)<(m:Int))=false:=Gu Gk;obtain⟨r,z4,p6⟩:=a9.out Gg hO.out q2;have w9:KeepsOthers W wr:=a9.2.2.2.2.others (λk hk=>⟨_,_,hk▸hO.out.1⟩);have s6:Below W0.heap.size W0 wr:=g4.out.trans (a9.2.2.2.2.to_below (λk hk=>by rw[hk];exact w7) q2);have o2:=a9.1
   gi_wp2_with fail
   (try go_at_K);refine⟨w9,⟨λ_=>by rw[o2.2.2.1.cell];rfl,λ_=>o2.sl l2 i9 p0⟩,⟨o2,r::L,by rw[Qr,t5],?_,?_⟩,s6⟩
   rw[Qi,z4,g7.out,Zyc hk,show n-k=i+1 by omega,show n-1-k=i by omega];rw[y6];exact p6
 case done =>
  intro D W hD hI hK
  have z7:∀ (W':World),W'=W.putObj D (.deferred none)->(EnvK 3 25 149 150 39 W' w.heap.size gX gO gB go n (some ⟨go,0,none⟩) cap L2/\∃ L:List RF,L.length=n/\L.map RF.q=(Zj2 X n m).drop (n-n)/\OutK 35 41 W' W0.heap.size gO (n-n) L):=λW' e=>by
   obtain⟨⟨h1,L,h2,h3,h4⟩,-⟩:=hI;subst e;have hr:∀ r,some D=some r->∃ o:Obj,W.heap[r]?=some o/\o.isCells=false:=λr e=>by cases e;exact⟨_,hK,rfl⟩
   exact⟨h1.own (grownBy_putObj' W D _) hr,L,h2,h3,h4.own (grownBy_putObj' W D _) hr⟩
  have kX:=hI.1.1.2.1.cell 0;simp at kX;have g4:=hI.2;clear hI;go_wp2_with fail
  have v4:w.heap.size<=V5.heap.size:=by
   have h1:=J.out.size;have h2:=g5.size;omega
  refine⟨by simp,.inl ⟨_,_,rfl,run_takeDeferred hK,?_⟩⟩;obtain⟨B8,L,B9,t0,bH⟩:=z7 _ rfl;rw[Qt]at t0 bH;refine⟨.tuple #[.slice (some ⟨gO,0,none⟩) n n,.bool true],by simp[results,Tryz.f82,go_sem],gO,L,rfl,(Gs g5 g4).trans (belowK_b (w:=V5) v4 W D _ _ hD hK rfl rfl),by have h2:=g5.size;omega,⟨⟨[],?_⟩,λr hr=>(bH.2.1 r hr).1,?_⟩,by rw[t0,List.drop_zero],λr hr=>Qs g5.size (bH.2.1 r hr).2⟩
  ·have h1:=bH.1
   rw[List.replicate_zero,Qv]at h1;rw[QJ];exact h1
  rw[List.nodup_cons];refine⟨λhm=>?_,bH.2.2⟩;obtain⟨r,hr,e⟩:=List.mem_map.1 hm;obtain⟨es,zs,h1,-,-⟩:=(bH.2.1 r hr).1.1;rw[e]at h1;exact g2 (bH.1.type h1)
theorem Z1s(A:Option Addr)(n c m:Nat)(Q:List (List Rat))(w:World)(h:MFL w A n c Q)(hn0:0<n)(hn9:n<=900)(hnm:n<=m)(hm9:m<=900)(hm:∀ i,i<n->(Q[i]?.getD []).length=m)(T:okZ (pw 200) m n 0 0 (Z6 Q) 1)(hfin:Zs0 Q n m)(a6:(Zar n 0 0 (Z6 Q) false 1).2.1<n) :
    Calls Tryz.prog 82 #[.slice A n c,.int .i64 n] w λe w'=>e=.returned (.tuple #[.slice none 0 0,.bool false])/\Below w.heap.size w w':=by
 have hmx:=Gt;have b9:(150:TypeId)≠39:=Gj;have d4:(35:TypeId)≠41:=Gj;have d6:Hid (NoT 3 25 149 150 39 41):=Za (by unfold NoT;decide);have d0:Hid (NoT 3 25 149 150 39 35):=Za (by unfold NoT;decide);obtain⟨iF,hi,d7,d9,d3⟩:=info_parts Zd6;obtain⟨iS,ki,d5,d8,e0⟩:=info_parts Zhb;have c1:=Za h.1;obtain⟨W0,c0,a7,q0,s0⟩:=Zam w 3 #[.int .i64 n];replace h:=h.below a7;obtain⟨FIN,C⟩:=Gz (Zar n 0 0 (Z6 Q) false 1);rw[C]at a6;obtain⟨E',rk,ng,la⟩:=FIN;replace a6:rk<n:=a6;replace C:=Za C;replace T:=Za T;refine(callsIn_wide (n:=9)).1 ?_;refine callsIn_of_wp_marks Tryz.func82 rfl trivial ?_ rfl;simp only[Tryz.ntmps82,QC,Qr,QI,Nat.reduceAdd,Nat.reduceSub,Qw,Qx,QD,Qz,Qv,QG];refine wpIn_wide.2 ?_;go_wp2_with fail;refine(Zqi A n c m Q W0 h hn9 hm Gk hm9 hfin.1 hfin.2).mono ?_;rintro e w1 ⟨v,vb,L,rfl,J,hM,hq,hP,a2⟩;obtain⟨vA,vc,rfl,b6,b5,-⟩:=hP.poly_at;rw[Qc,Ql]at b6 hP a2 ⊢;unfold maxLen at b5;have f:=congrArg QF hq;rw[Qc]at f;unfold Z6 at f;rw[Qc,c1.out]at f;obtain⟨go,cap,rfl,b8,c7,ff,b1,fg⟩:=hM.mat b9 (λe=>by rw[e]at f;simp at f;omega);rw[f]at b8 ⊢;obtain⟨g3,a9⟩:=Gz w1.heap.size;obtain⟨V,hV,U,qv,kW,kB,sV⟩:=Zn 152 #[.slice (some ⟨go,0,none⟩) n cap,.slice vA n vc] (Qb w1.heap.size w1) (Qa _);have b3:=b1.below U;have O:=(Zc J q0).below U (Zc J q0).lt;rw[a9]at qv;obtain⟨x0,x1,-,-⟩:=qv.two;have nV:=O.cell 0;simp at nV;replace f:=Za f;have b2:Hid (w.heap.size<W0.heap.size):=Za Gk;have I:Hid (Below W0.heap.size W0 V):=Za (Gs J U)
 have o:∀ k,(k=go \/ k ∈ L.map RZ.g)->W0.heap.size<=k:=λk hk=>by
  exact Ct
 have y:∀ k,(k=go \/ k ∈ L.map RZ.g)->k<g3:=λk hk=>by
  obtain⟨t,cs,hb,-⟩:=b1.boxes k hk;rw[<- a9];exact hb.lt
 replace o:=Za o;replace y:=Za y;replace qv:=Za qv;replace O:=Za O;clear hM b1 kW kB sV a2 hP h c0 ff fg q0 J U;go_wp2_with fail;(try rw[a9]);(try rw[hV]);refine(Zi0 go n cap L (.slice vA n vc) m n V b3 f.out hn0 hn9 b8 c7 Gk hm9 (by rw[hq];exact T.out)).mono ?_;rw[hq,C.out];rintro e w2 ⟨L2,ln,lA,lk,lc,rfl,c5,c9,-,a0,b7,Y⟩;replace a0:L2.map RZ.q=E':=a0;clear hV x0 x1 nV;have a3:¬ (g3=go \/ g3 ∈ L.map RZ.g):=λh=>by have:=y.out g3 h;omega
 have q3:=Y.blk qv.out a3;have a5:=Y.blk O.out (λh=>by have:=o.out _ h;have:=b2.out;omega);have b0:Below W0.heap.size W0 w2:=I.out.trans (Y.to_below o.out I.out.size);obtain⟨g6,c2⟩:=Gz w2.heap.size;obtain⟨V2,c4,u,c6,kW,kB,sV⟩:=Zn 39 #[.bool ln,.slice lA lk lc] (Qb w2.heap.size w2) (Qa _);have a4:=q3.below u q3.lt;have a1:=a5.below u a5.lt;have b4:=b7.below u;have a8:=Za (Gs b0 u);obtain⟨y0,y1,-,-⟩:=a4.two;have c3:=a1.cell 0;simp at c3;have t1:decide ((rk:Int)<(n:Int))=true:=Gv Gk;have c8:Hid (Below w.heap.size w V2):=Za (Gs a7 a8.out);clear b3 Y b0 c5 q3 a5 kW kB sV o y u a4 a1 b7 c6 a3 O qv I b4 hm hfin T;go_wp2_with fail;(try rw[c2]);(try rw[c4]);go_wp2_with fail;exact⟨.tuple #[.slice none 0 0,.bool false],by simp[results,Tryz.f82,go_sem],rfl,c8.out⟩
open Go.RowKit
def Zf5(n j:Nat):List Rat:=(Qk n).map λk=>if j=k then 1 else 0
def Zbg(Q:List (List Rat))(n i t:Nat):List (List Rat):=(Qk n).map λj=>Q[j]?.getD []++if j<i then Zf5 n j else if j=i then (Zf5 n j).take t else []
theorem Zp8(Q:List (List Rat))(n i t:Nat):(Zbg Q n i t).length=n:=by unfold Zbg;simp
theorem Zlc{Q:List (List Rat)}{n i t j:Nat}(hj:j<n):(Zbg Q n i t)[j]?.getD []=Q[j]?.getD []++if j<i then Zf5 n j else if j=i then (Zf5 n j).take t else []:=by
 unfold Zbg;rw[Qe,Qj hj];rfl
theorem Zim(n j:Nat):(Zf5 n j).length=n:=by unfold Zf5;simp
theorem Zng(x y:Value)(W:World):(callFunc 81 #[x,y]).run Tryz.prog W=.ok (.enter 81 #[x,y]) W:=by simp[go_sem]
def FPart(t:TypeId)(w:World)(g:Nat)(qs:List Rat)(rest:Nat):Prop:=∃ es zs:List FE,Blk w g t (Zx (es++zs))/\zs.length=rest/\(∀ e ∈ es,e.in_ w)/\es.map FE.q=qs
section
variable{t:TypeId}{w w':World}{g rest:Nat}{qs:List Rat}
theorem FPart.below(h:FPart t w g qs rest)(hb:Below w.heap.size w w'):FPart t w' g qs rest:=by
 obtain⟨es,zs,h1,h2,h3,h4⟩:=h;exact⟨es,zs,Zc hb h1,h2,λe he=>(h3 e he).below hb,h4⟩
theorem FPart.raw(h:FPart t w g qs rest):FRaw t w g (qs.length+rest):=by
 obtain⟨es,zs,h1,h2,h3,rfl⟩:=h;exact⟨_,h1,by simp[h2]⟩
theorem FPart.own(h:FPart t w g qs 0):FOwn t w g qs:=by
 obtain⟨es,zs,h1,h2,h3,h4⟩:=h;exact⟨es,zs,h1,h3,h4⟩
theorem FPart.push(h:FPart t w g qs (rest+1)){na:Bool}{A:Option Addr}{k c:Nat}{nb:Bool}{B:Option Addr}{m d:Nat}{r:Rat}(hf:Fr w na A k c nb B m d r):FPart t (Zgh w g qs.length na A k c nb B m d) g (qs ++ [r]) rest:=by
 obtain⟨es,zs,h1,h2,h3,rfl⟩:=h
 obtain⟨z,f,rfl⟩:∃ z f,zs=z::f:=by
  cases zs with
  | nil=>simp at h2
  | cons z f=>exact⟨z,f,rfl⟩
 have hn:=Zcb (es++z::f);have h4:=(((h1.set_ (es.length*4) (.bool na)).set_ (es.length*4+1) (.slice A k c)).set_ (es.length*4+2) (.bool nb)).set_ (es.length*4+3) (.slice B m d);have hs:=Zhw (es:=es++z::f) (i:=es.length) ⟨na,A,k,c,nb,B,m,d,r⟩ Gh;dsimp only at hs;rw[hs,List.set_append_right _ _ (Qa _),Qt,List.set_cons_zero]at h4;refine⟨es ++ [⟨na,A,k,c,nb,B,m,d,r⟩],f,?_,by simpa using h2,λe he=>?_,by simp⟩;rw[QE,List.singleton_append,Qc];exact h4;rw[Qc];rcases List.mem_append.1 he with he|he
 ·obtain⟨a,b⟩:=h3 e he
  exact⟨⟨a.1,a.2.1,Zgi a.2.2 h1 hn⟩,⟨b.1,b.2.1,Zgi b.2.2 h1 hn⟩⟩
 rw[QA]at he;subst he;exact⟨⟨hf.1.1,hf.1.2.1,Zgi hf.1.2.2 h1 hn⟩,⟨hf.2.1,hf.2.2.1,Zgi hf.2.2.2 h1 hn⟩⟩
end
theorem Zzb{n i:Nat}(hi:i<n):(Qg n (0:Rat)).set i 1=Zf5 n i:=by
 unfold Zf5;apply List.ext_getElem?;intro k;rw[List.getElem?_set,Qf,Qe];by_cases hk:k<n
 ·rw[Qj hk,Qu,Gx hk,QH]
  by_cases h:i=k;rw[Gx h,Gx hi,Gx h];rw[Gw h,Gw h]
 rw[Qu,Gw hk,Gw Gk,Qo (by simpa using hk)];rfl
theorem Cr{G:Prop}(h:G:=by
 rw[<- hZ];exact Zjn (hB.trans (aa.mono (by rw[<- hg];exact hB.size))) (Nat.le_refl _)):G:=h
theorem Zt9(gx:Nat)(A:Option Addr)(n c i:Nat)(w:World)(hx:Blk w gx 25 #[.slice A n c])(hn9:n<=900)(hin:i<n) :
    Calls Tryz.prog 81 #[.int .i64 i,.pointer (some ⟨gx,0,none⟩)] w λe w'=>∃ A c,e=.returned (.slice A n c)/\Below w.heap.size w w'/\FL w' A n c (Zf5 n i):=by
 obtain⟨iF,hi,J,O,T⟩:=info_parts Zd6;have I:=Zv8 (P:=Tryz.prog) 35 41 Tryz.underlying35 hi J O T (n:Int) n rfl Gk w;obtain⟨W0,u⟩:=Gz (w.alloc (.cells (Zx (Qg n Zas)) 41));obtain⟨g,hg⟩:=Gz w.heap.size;rw[u,hg]at I;have U:Below g w W0:=by rw[<- u,<- hg];exact(Qb _ _).alloc (Qa _) _
 have y:FPart 41 W0 g [] n:=⟨[],Qg n Zas,by rw[<- u,<- hg];exact QB _ _ _,by simp,λe he=>(by cases he),rfl⟩;have V:=hx.cell 0;simp at V;replace y:=Za y;rw[hg];clear u;go_in;go_wp2_with fail
 go_loopg [11] n (λj kv wr=>∃ k:Nat,k+j=n/\kv=.int .i64 k/\FPart 41 wr g (Qg k 0) (n-k)/\Below g w wr)
 case atStart=>exact⟨0,by omega,rfl,y.out,U⟩
 case round =>
  clear y I;obtain⟨k,a1,rfl,hP,hB⟩:=hrel;cases gk with
  | zero =>
   obtain rfl:k=n:=Gk;have t1:decide ((k:Int)<(k:Int))=false:=Gh;rw[Qt]at hP;have bi:(i:Int)<(k:Int):=Gk;have Y:(0:Int)<=(i:Int):=Gk;replace hP:=Za hP;go_wp2_with fail;refine(Zr3 1 1 wr Gj Gj Gj Gj).mono ?_;rintro e w2 ⟨aa,n6,A6,k6,c6,m6,B6,j6,d6,rfl,o⟩;rw[Zfh]at o;have f:=hP.out.below aa;have h:(Qg k (0:Rat)).length=k:=Qf ..;obtain⟨x0,x1,x2,x3,x4,x5,x6,x7,y0,y1,y2,y3⟩:=f.raw.cells (i:=i) (by rw[h];omega);have z0:=f.raw.frozen (i*4);have z1:=f.raw.frozen (i*4+1);have z2:=f.raw.frozen (i*4+2);have z3:=f.raw.frozen (i*4+3);obtain⟨Z,hZ⟩:=Gz (Zgh w2 g i n6 A6 k6 c6 m6 B6 j6 d6)
   have hO:FOwn 41 Z g (Zf5 k i):=by
    rw[<- Zzb hin,<- hZ];exact f.own.set_ (by rw[h];exact hin) o
   have C:Below g w Z:=by
    exact Cr
   unfold Zgh at hZ;replace hO:=Za hO;clear f o hP;go_wp2_with fail;(try rw[hZ]);go_wp2_with fail;go_ret;have h1:=hO.out.fl (c:=k) (by rw[Zim];exact Qa _) (by unfold maxLen;omega);rw[Zim]at h1;exact⟨_,_,rfl,C,h1⟩
  | succ j =>
   obtain rfl:j=n-(k+1):=Gk;have a0:k<n:=Gk;have t1:decide ((k:Int)<(n:Int))=true:=Gv Gk;have bi:(k:Int)<(n:Int):=Gk;have Y:(0:Int)<=(k:Int):=Gk;replace hP:=Za hP;go_wp2_with fail;refine(Zr3 0 1 wr Gj Gj Gj Gj).mono ?_;rintro e w2 ⟨aa,n6,A6,k6,c6,m6,B6,j6,d6,rfl,o⟩;rw[Zfh]at o;have f:=hP.out.below aa;have h:(Qg k (0:Rat)).length=k:=Qf ..;obtain⟨x0,x1,x2,x3,x4,x5,x6,x7,y0,y1,y2,y3⟩:=f.raw.cells (i:=k) (by rw[h];omega);have z0:=f.raw.frozen (k*4);have z1:=f.raw.frozen (k*4+1);have z2:=f.raw.frozen (k*4+2);have z3:=f.raw.frozen (k*4+3);obtain⟨Z,hZ⟩:=Gz (Zgh w2 g k n6 A6 k6 c6 m6 B6 j6 d6)
   have hO:FPart 41 Z g (Qg (k+1) 0) (n-(k+1)):=by
    rw[show n-k=n-(k+1)+1 by omega]at f;have h1:=f.push o;rw[h,hZ]at h1;rw[Qy];exact h1
   have C:Below g w Z:=by
    exact Cr
   unfold Zgh at hZ;replace hO:=Za hO;clear f o hP;go_wp2_with fail;(try rw[hZ]);go_wp2_with fail
   go_roundg (n-(k+1))
   case measure=>omega
   case rel=>exact⟨k+1,by omega,by go_num,hO.out,C⟩
section
variable{k n m:Nat}{R:List (List Rat)}
end
theorem Zg4{Q:List (List Rat)}{n:Nat}(hrow:∀ i,i<n->(Q[i]?.getD []).length=n)(hq:Q.length=n)(i j:Nat):Zh (Zbg Q n n 0) i j=if i<n then (if j<n then Zh Q i j else if j-n<n then (if i=j-n then 1 else 0)else 0)else 0:=by
 by_cases hi:i<n
 ·rw[Gx hi]
  unfold Zh;rw[Zlc hi,Gx hi];have hr:=hrow i hi;by_cases hj:j<n;rw[Gx hj,List.getElem?_append_left Gk];rw[Gw hj,Qm Gk,hr];unfold Zf5;rw[Qe];by_cases hjn:j-n<n;rw[Gx hjn,Qj hjn];rfl;rw[Gw hjn,Qo Gg];rfl
 rw[Gw hi];unfold Zh;rw[Qo (l:=Zbg Q n n 0) (by rw[Zp8];omega)];rfl
theorem Zyb{n:Nat}(f g:Nat->Rat):Z0 n (λi=>f i+g i)=Z0 n f+Z0 n g:=by
 exact FD
theorem Zkw{n:Nat}(f:Nat->Rat)(c:Rat):Z0 n (λi=>f i*c)=Z0 n f*c:=by
 exact FD
theorem Zpo{n m:Nat}(f:Nat->Nat->Rat):Z0 n (λr=>Z0 m (λk=>f r k))=Z0 m (λk=>Z0 n (λr=>f r k)):=by
 induction n with
 | zero=>simp only[Z0];rw[Zgl (λ_ _=>rfl)]
 | succ n ih=>simp only[Z0];rw[ih,Zyb]
theorem Zs5{n:Nat}{f:Nat->Rat}(h:∀ i,i<n->0<=f i):0<=Z0 n f:=by
 induction n with
 | zero=>simp only[Z0];exact Rat.le_refl
 | succ n ih =>
  simp only[Z0];have h1:=ih λi hi=>h i Gk;have h2:=h n Gk
  grind
def tL(A:Nat->Nat->Rat)(i t:Nat):Rat:=if t<i then lQ A i t else if t=i then 1 else 0
section
variable{A:Nat->Nat->Rat}{n c:Nat}
theorem Zw2:∀ (t i:Nat),t<=i->A i c=Zr A t i c+Z0 t (λs=>lQ A i s*Zr A s s c)
 | 0,i,_=>by show A i c=A i c+0;grind
 | t+1,i,h=>by
  have h1:=Zw2 t i Gk;have h2:=Zqd (A:=A) (k:=c) (show t<i by omega);show A i c=_+(Z0 t _+_);rw[h2]
  grind
theorem col_tL{i:Nat}(hi:i<n):A i c=Z0 n (λs=>tL A i s*Zr A s s c):=by
 rw[Zon (n:=i) (m:=n) (k:=i) (f:=λs=>tL A i s*Zr A s s c) (Qa _) hi (λj h1 h2=>by
  show tL A i j*_=0;unfold tL;rw[Gw Gk,Gw h2]
  grind)]
 have h1:=Zw2 (A:=A) (c:=c) i i (Qa _)
 have h2:Z0 i (λs=>tL A i s*Zr A s s c)=Z0 i (λs=>lQ A i s*Zr A s s c):=Zw λs hs=>by
  unfold tL;rw[Gx hs]
 have h3:tL A i i=1:=by unfold tL;rw[Gw Gk,Gx rfl]
 show A i c=Z0 i (λs=>tL A i s*Zr A s s c)+tL A i i*Zr A i i c;rw[h2,h3,h1]
 grind
theorem Z2a(hA:∀ i k,i<n->k<n->A i k=A k i)(hp:posP A n)(hU:∀ i j,i<n->j<i->Zr A i i j=0){i j:Nat}(hi:i<n)(hj:j<n):Zr A i i j=dQ A i*tL A j i:=by
 have hd:=hp.ne hi;unfold tL;rcases Nat.lt_trichotomy i j with h|h|h
 ·rw[Gx h]
  unfold lQ;rw[Zej hA i i j (Qa _) Gk hi hj]
  grind
 ·subst h
  rw[Gw Gk,Gx rfl];unfold dQ
  grind
 rw[Gw Gk,Gw Gk,hU i j hi h]
 grind
def brd(A:Nat->Nat->Rat)(x:Nat->Rat)(n:Nat):Nat->Nat->Rat:=λi k=>if i<n then (if k<n then A i k else x i)else (if k<n then x k else 0)
theorem Z12(x:Nat->Rat){t i k:Nat}(ht:t<=n)(hi:i<n)(hk:k<n):Zr (brd A x n) t i k=Zr A t i k:=Zcr (n:=n) (m:=n) (λi k hi hk=>by unfold brd;rw[Gx hi,Gx hk]) (Qa _) t i k ht hi hk
theorem brd_d(x:Nat->Rat){t:Nat}(ht:t<n):dQ (brd A x n) t=dQ A t:=Z12 x Gk ht ht
theorem brd_l(x:Nat->Rat){i t:Nat}(hi:i<n)(ht:t<n):lQ (brd A x n) i t=lQ A i t:=by unfold lQ;rw[brd_d x ht,Z12 x Gk hi ht]
theorem Z27(hA:∀ i k,i<n->k<n->A i k=A k i)(x:Nat->Rat):∀ i k,i<n+1->k<n+1->brd A x n i k=brd A x n k i:=λi k hi hk=>by
 unfold brd;by_cases h1:i<n <;> by_cases h2:k<n;rw[Gx h1,Gx h2,Gx h2,Gx h1,hA i k h1 h2];rw[Gx h1,Gw h2,Gw h2,Gx h1];rw[Gw h1,Gx h2,Gx h2,Gw h1];rw[Gw h1,Gw h2,Gw h2,Gw h1]
theorem Zx1(hA:∀ i k,i<n->k<n->A i k=A k i)(x:Nat->Rat):∀ t,t<=n->Zr (brd A x n) t n n=- Z0 t (λs=>Zr (brd A x n) s s n*Zr (brd A x n) s s n/dQ (brd A x n) s)
 | 0,_=>by
  show brd A x n n n=-0;unfold brd;rw[Gw (Nat.lt_irrefl _),Gw (Nat.lt_irrefl _)]
  grind
 | t+1,ht=>by
  rw[Zff Gk,Zx1 hA x t Gk,Zej (Z27 hA x) t n t Gk (Qa _) Gk Gk];show _=-(Z0 t _+Zr (brd A x n) t t n*Zr (brd A x n) t t n/dQ (brd A x n) t);unfold dQ;rw[Rat.div_def (Zr (brd A x n) t t n),Rat.div_def (Zr (brd A x n) t t n*Zr (brd A x n) t t n)]
  grind
end
section
variable{k n m:Nat}{R:List (List Rat)}
theorem red_low(h:SmE k R)(hl:R.length=n)(hrow:∀ i,i<n->(R[i]?.getD []).length=m)(hnm:n<=m)(hp:posP (Zh R) n){i j:Nat}(hi:i<n)(hj:j<i):Zr (Zh R) i i j=0:=by
 obtain⟨⟨pc,G,s,h3⟩,h4⟩:=Zs1 (B:=pw (k*m+k)) (S:=pw (k*m)) hl hrow (λi hi=>h.denAt (hrow i hi)) (λi j hi=>h.whole (hrow i hi) j) i Gk Gk (hp.mono Gk);rw[<- h4 i j hi];exact h3.low i j (Qa _) hi hj
end
section
variable{k n m:Nat}{R:List (List Rat)}
end
theorem Ec{G:Prop}(h:G:=by
 refine⟨?_,_,_,_,_,_,_,_,_,rfl,hr.out⟩;have cB:=bX.trans ((Gs ab aq.out).mono bX.size);exact cB.trans (aQ.to_below (λk e=>by omega) cB.size)):G:=h
theorem Zl3(xn:Bool)(xA:Option Addr)(xk xc:Nat)(xm:Bool)(xB:Option Addr)(xj xd:Nat)(yn:Bool)(yA:Option Addr)(yk yc:Nat)(ym:Bool)(yB:Option Addr)(yj yd:Nat)(a b:Rat)(w:World)(ha:Fr w xn xA xk xc xm xB xj xd a)(hb:Fr w yn yA yk yc ym yB yj yd b)(sa:Sm a)(sb:Sm b) :
    Calls Tryz.prog 96 #[.agg #[.bool xn,.slice xA xk xc,.bool xm,.slice xB xj xd],.agg #[.bool yn,.slice yA yk yc,.bool ym,.slice yB yj yd]] w (Zdl w (a-b)):=by
 obtain⟨W0,J,h,⟨q0,q1,q2⟩,s0⟩:=Zb0 w 41 #[.bool xn,.slice xA xk xc,.bool xm,.slice xB xj xd] 41 #[.bool yn,.slice yA yk yc,.bool ym,.slice yB yj yd] 41 #[.bool false,.slice none 0 0,.bool false,.slice none 0 0];obtain⟨a0,a1,a2,a3,-⟩:=q0.four;obtain⟨b0,b1,b2,b3,-⟩:=q1.four;obtain⟨gR,y⟩:=Gz (w.heap.size+1+1);rw[y]at q2;have hA:=ha.below h;have hD:=hb.below h;go_in;go_wp2_with fail;(try rw[J]);refine(Zzi xn xm yn ym xA xB yA yB xk xc xj xd yk yc yj yd a b W0 hA hD sa sb).mono ?_;rintro e w1 ⟨ab,pn,pA,pk,pc,pm,pB,pj,pd,rfl,hf⟩;replace q2:=Zc ab q2;clear a0 a1 a2 a3 b0 b1 b2 b3 q0 q1 hA hD;obtain⟨V1,V,o,t0,tz⟩:=Zam w1 41 #[.bool false,.slice none 0 0,.bool false,.slice none 0 0];have Y:=Zc o q2;obtain⟨gn,u⟩:=Gz w1.heap.size
 have U:gR<gn:=by
  have h1:=ab.size;omega
 rw[u]at t0;obtain⟨u0,u1,u2,u3,v0,v1,v2,v3⟩:=t0.four;obtain⟨V2,T,p2,I,s2⟩:=Zau pn pA pk pc pm pB pj pd t0;have aq:Below w1.heap.size w1 V2:=o.trans (I.to_below (λk e=>by omega) o.size);have f:=Zc aq q2;have C:=hf.below aq;obtain⟨o0,o1,o2,o3,-⟩:=p2.four;obtain⟨c0,c1,c2,c3,z0,z1,z2,z3⟩:=f.four;obtain⟨W5,O,q5,aQ,s5⟩:=Zau pn pA pk pc pm pB pj pd f;have hr:=C.keptN aQ f (Za6 _ _ _ _ _ _ _ _);have bX:=h;replace aq:=Za aq;replace hr:=Za hr;clear hf C;go_wp2_with fail;(try rw[u]);(try rw[T]);(try rw[y]);go_wp2_with fail;(try rw[O]);obtain⟨r0,r1,r2,r3,-⟩:=q5.four;refine bodyPost_ret (v:=.agg #[.bool pn,.slice pA pk pc,.bool pm,.slice pB pj pd]) (by simp[results,Tryz.results96,go_sem,r0,r1,r2,r3]) rfl ?_;exact Ec
theorem Zly(xn:Bool)(xA:Option Addr)(xk xc:Nat)(xm:Bool)(xB:Option Addr)(xj xd:Nat)(yn:Bool)(yA:Option Addr)(yk yc:Nat)(ym:Bool)(yB:Option Addr)(yj yd:Nat)(a b:Rat)(w:World)(ha:Fr w xn xA xk xc xm xB xj xd a)(hb:Fr w yn yA yk yc ym yB yj yd b)(sa:Sm a)(sb:Sm b) :
    Calls Tryz.prog 49 #[.agg #[.bool xn,.slice xA xk xc,.bool xm,.slice xB xj xd],.agg #[.bool yn,.slice yA yk yc,.bool ym,.slice yB yj yd]] w (Zdl w (a*b)):=by
 obtain⟨W0,J,h,⟨q0,q1,q2⟩,s0⟩:=Zb0 w 41 #[.bool xn,.slice xA xk xc,.bool xm,.slice xB xj xd] 41 #[.bool yn,.slice yA yk yc,.bool ym,.slice yB yj yd] 41 #[.bool false,.slice none 0 0,.bool false,.slice none 0 0];obtain⟨a0,a1,a2,a3,-⟩:=q0.four;obtain⟨b0,b1,b2,b3,-⟩:=q1.four;obtain⟨gR,y⟩:=Gz (w.heap.size+1+1);rw[y]at q2;have hA:=ha.below h;have hD:=hb.below h;go_in;go_wp2_with fail;(try rw[J]);refine(Zo8 xn xm yn ym xA xB yA yB xk xc xj xd yk yc yj yd a b W0 hA hD sa sb).mono ?_;rintro e w1 ⟨ab,pn,pA,pk,pc,pm,pB,pj,pd,rfl,hf⟩;replace q2:=Zc ab q2;clear a0 a1 a2 a3 b0 b1 b2 b3 q0 q1 hA hD;obtain⟨V1,V,o,t0,tz⟩:=Zam w1 41 #[.bool false,.slice none 0 0,.bool false,.slice none 0 0];have Y:=Zc o q2;obtain⟨gn,u⟩:=Gz w1.heap.size
 have U:gR<gn:=by
  have h1:=ab.size;omega
 rw[u]at t0;obtain⟨u0,u1,u2,u3,v0,v1,v2,v3⟩:=t0.four;obtain⟨V2,T,p2,I,s2⟩:=Zau pn pA pk pc pm pB pj pd t0;have aq:Below w1.heap.size w1 V2:=o.trans (I.to_below (λk e=>by omega) o.size);have f:=Zc aq q2;have C:=hf.below aq;obtain⟨o0,o1,o2,o3,-⟩:=p2.four;obtain⟨c0,c1,c2,c3,z0,z1,z2,z3⟩:=f.four;obtain⟨W5,O,q5,aQ,s5⟩:=Zau pn pA pk pc pm pB pj pd f;have hr:=C.keptN aQ f (Za6 _ _ _ _ _ _ _ _);have bX:=h;replace aq:=Za aq;replace hr:=Za hr;clear hf C;go_wp2_with fail;(try rw[u]);(try rw[T]);(try rw[y]);go_wp2_with fail;(try rw[O]);obtain⟨r0,r1,r2,r3,-⟩:=q5.four;refine bodyPost_ret (v:=.agg #[.bool pn,.slice pA pk pc,.bool pm,.slice pB pj pd]) (by simp[results,Tryz.results49,go_sem,r0,r1,r2,r3]) rfl ?_;exact Ec
theorem Zms(xn:Bool)(xA:Option Addr)(xk xc:Nat)(xm:Bool)(xB:Option Addr)(xj xd:Nat)(yn:Bool)(yA:Option Addr)(yk yc:Nat)(ym:Bool)(yB:Option Addr)(yj yd:Nat)(a b:Rat)(w:World)(ha:Fr w xn xA xk xc xm xB xj xd a)(hb:Fr w yn yA yk yc ym yB yj yd b)(sa:Sm a)(sb:Sm b)(h0:b≠0) :
    Calls Tryz.prog 95 #[.agg #[.bool xn,.slice xA xk xc,.bool xm,.slice xB xj xd],.agg #[.bool yn,.slice yA yk yc,.bool ym,.slice yB yj yd]] w (Zdl w (a/b)):=by
 obtain⟨W0,J,h,⟨q0,q1,q2⟩,s0⟩:=Zb0 w 41 #[.bool xn,.slice xA xk xc,.bool xm,.slice xB xj xd] 41 #[.bool yn,.slice yA yk yc,.bool ym,.slice yB yj yd] 41 #[.bool false,.slice none 0 0,.bool false,.slice none 0 0];obtain⟨a0,a1,a2,a3,-⟩:=q0.four;obtain⟨b0,b1,b2,b3,-⟩:=q1.four;obtain⟨gR,y⟩:=Gz (w.heap.size+1+1);rw[y]at q2;have hA:=ha.below h;have hD:=hb.below h;go_in;go_wp2_with fail;(try rw[J]);refine(Z2i xn xm yn ym xA xB yA yB xk xc xj xd yk yc yj yd a b W0 hA hD sa sb h0).mono ?_;rintro e w1 ⟨ab,pn,pA,pk,pc,pm,pB,pj,pd,rfl,hf⟩;replace q2:=Zc ab q2;clear a0 a1 a2 a3 b0 b1 b2 b3 q0 q1 hA hD;obtain⟨V1,V,o,t0,tz⟩:=Zam w1 41 #[.bool false,.slice none 0 0,.bool false,.slice none 0 0];have Y:=Zc o q2;obtain⟨gn,u⟩:=Gz w1.heap.size
 have U:gR<gn:=by
  have h1:=ab.size;omega
 rw[u]at t0;obtain⟨u0,u1,u2,u3,v0,v1,v2,v3⟩:=t0.four;obtain⟨V2,T,p2,I,s2⟩:=Zau pn pA pk pc pm pB pj pd t0;have aq:Below w1.heap.size w1 V2:=o.trans (I.to_below (λk e=>by omega) o.size);have f:=Zc aq q2;have C:=hf.below aq;obtain⟨o0,o1,o2,o3,-⟩:=p2.four;obtain⟨c0,c1,c2,c3,z0,z1,z2,z3⟩:=f.four;obtain⟨W5,O,q5,aQ,s5⟩:=Zau pn pA pk pc pm pB pj pd f;have hr:=C.keptN aQ f (Za6 _ _ _ _ _ _ _ _);have bX:=h;replace aq:=Za aq;replace hr:=Za hr;clear hf C;go_wp2_with fail;(try rw[u]);(try rw[T]);(try rw[y]);go_wp2_with fail;(try rw[O]);obtain⟨r0,r1,r2,r3,-⟩:=q5.four;refine bodyPost_ret (v:=.agg #[.bool pn,.slice pA pk pc,.bool pm,.slice pB pj pd]) (by simp[results,Tryz.results95,go_sem,r0,r1,r2,r3]) rfl ?_;exact Ec
theorem Zo4(A:Option Addr)(n c:Nat)(es:List FX)(w:World)(h:FXL w A n c es)(b:Bool)(hb:Zcz es=b) :
    Calls Tryz.prog 56 #[.slice A n c] w λe w'=>e=.returned (.bool b)/\Below w.heap.size w w':=by
 have hl:=h.1;have a9:=h.2.1;have Y:=h.2.2.1;unfold maxLen at Y;replace hl:=Za hl;replace hb:=Za hb;replace h:=Za h;go_in;go_wp2_with fail
 go_loopw [3] (λiv wr=>∃ i:Nat,i<=n/\iv=.int .i64 i/\Hid (∀ j e,j<i->es[j]?=some e->e.fine64=true)/\Below w.heap.size w wr) (λiv _=>n-(intOf iv).toNat)
 case atStart=>exact⟨0,Nat.zero_le _,rfl,Za (λj e hj=>by omega),Qb _ _⟩
 case round =>
  obtain⟨i,a8,rfl,ay,u⟩:=hrel;by_cases hin:i<n
  case neg =>
   obtain rfl:n=i:=Gk;have a0:decide ((n:Int)<(n:Int))=false:=Gh
   obtain rfl:b=true:=by
    rw[<- hb.out];unfold Zcz;exact EY
   go_wp2_with fail;go_ret;exact⟨rfl,u⟩
  have a0:decide ((i:Int)<(n:Int))=true:=Gv Gk;obtain⟨g,o,e,rfl,he,hc,I,C⟩:=(h.out.below u).at_ hin;obtain⟨c0,c1,c2,c3⟩:=hc;have a5:=I.2.1;have V:=I.2.2.1;have a4:=C.2.1;have y:=C.2.2.1;have J:=Qs a5 V;have O:=Qs a4 y;unfold maxLen at V y
  have bad:e.fine64=false->b=false:=λhf=>by
   rw[<- hb.out];unfold Zcz;rw[List.all_eq_false];exact⟨e,Qp he,by rw[hf];decide⟩
  replace bad:=Za bad;have hF:=Za (λW1=>Zql e.na e.nb e.A e.B e.n e.c e.m e.d W1 J O);obtain⟨x,hx⟩:=Gz e.ok;have hC:=Za (λW1 (hb:Below wr.heap.size wr W1)=>Zti e.na e.nb e.A e.B e.n e.c e.m e.d e.la e.lb W1 (I.below hb) (C.below hb) x hx);obtain⟨k,hk⟩:=Gz (max e.n e.m);have a7:k<=9223372036854775807:=by unfold maxLen at J O;omega
  rw[hk]at hF;replace hk:=Za hk;clear I C J O;by_cases h1:64<k
  ·have t1:decide ((64:Int)<(k:Int))=true:=Gv Gk
   obtain rfl:b=false:=bad.out (by unfold FX.fine64 FX.few;rw[hk.out,Gu Gk];rfl);replace he:=Za he;replace hx:=Za hx;clear hC;go_wp2_with fail;refine(hF.out _).mono ?_;rintro e' w1 ⟨rfl,y⟩;go_wp2_with fail;go_ret;exact⟨rfl,(by first|exact Gs u y|exact(Zf u _).trans (y.mono u.size))⟩
  have t1:decide ((64:Int)<(k:Int))=false:=Gu Gk;cases x
  ·obtain rfl:b=false:=bad.out (by unfold FX.fine64;rw[hx];simp)
   replace he:=Za he;clear hx;go_wp2_with fail;refine(hF.out _).mono ?_;rintro e' w1 ⟨rfl,f⟩;have a1:=Zb f c0;have a2:=Zb f c1;have a3:=Zb f c2;have a6:=Zb f c3;go_wp2_with fail;refine(hC.out _ (by first|exact f|exact Zf f _)).mono ?_;rintro e' w2 ⟨rfl,T⟩;simp only[Zft,Bool.false_eq_true,if_false];go_wp2_with fail;go_ret;exact⟨rfl,u.trans ((Gs f T).mono u.size)⟩
  have U:Hid (∀ j e,j<i+1->es[j]?=some e->e.fine64=true):=Za (λj e' hj he'=>by
    rcases Nat.lt_or_ge j i with h'|h';exact ay.out j e' h' he';obtain rfl:j=i:=Gk;rw[he]at he';cases he';unfold FX.fine64 FX.few;rw[hx,hk.out,Gv Gk];rfl)
  replace he:=Za he;clear hx;go_wp2_with fail;refine(hF.out _).mono ?_;rintro e' w1 ⟨rfl,f⟩;have a1:=Zb f c0;have a2:=Zb f c1;have a3:=Zb f c2;have a6:=Zb f c3;go_wp2_with fail;refine(hC.out _ (by first|exact f|exact Zf f _)).mono ?_;rintro e' w2 ⟨rfl,T⟩;simp only[Zft,if_true];go_wp2_with fail
  go_roundw
  case rel=>exact⟨i+1,by omega,by go_num,U,u.trans ((Gs f T).mono u.size)⟩
  case measure=>simp[intOf];omega
