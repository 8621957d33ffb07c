/- The reference's GreatSystem. Numbers with a common -/
import Derived.Deep.LoopGhost
import Derived.Lib.AppendZeros
import Derived.Test.YthappeninglakaaGreatZg16
set_option maxRecDepth 100000
set_option maxHeartbeats 8000000
set_option linter.unusedSimpArgs false
set_option linter.unusedVariables false
namespace Go.Proofs.YthappeninglakaaGreat
open Go.RowKit
open Below renaming refl→Qa
open Act renaming put→Qb
open Nat renaming le_refl→Qc,le_trans→Qj
open List renaming length_map→Qd,map_nil→Qe,getElem?_map→Qf,map_cons→Qg,length_range→Qh,length_replicate→Qi,range→Qk,not_mem_nil→Ql,mem_cons→Qm,getElem?_append_right→Qn,length_cons→Qp,nil_append→Qq,replicate→Qr,mem_of_getElem?→Qu,getElem?_range→Qv,append_toArray→Qw,size_toArray→Qy,push_toArray→Qz,length→QA,cons_append→QB,length_nil→QC,append_nil→QD
open Blk renaming new→Qo
open _root_.Array renaming replicate_succ→Qs,replicate_zero→Qt
open And renaming intro→Qx
open Kept renaming refl→QE
attribute [local go_sem] Zg
def ModI(rs:List RI)(n m k:Nat):Prop:=(∀ (j:Nat) (r:RI),j<n->j<210->rs[j]?=some r->(r.n<=4 \/ 12<r.n)/\r.n<=15)/\(n<=12 \/ 200<n)/\n<=210/\m<=300/\k<=300
def CD(D M:Nat)(q:Rat):Prop:=∃ z:Int,q=(z:Rat)/(D:Rat)/\z.natAbs<=M
section
variable{D M N:Nat}{p q:Rat}
theorem CD.mono(h:CD D M q)(hM:M<=N):CD D N q:=by
 obtain⟨z,e,hz⟩:=h;exact⟨z,e,Qj hz hM⟩
end
theorem Zxd{rs:List RX}(h:sqE rs=0):Zgv rs=0/\rs.length=n0R rs:=by
 unfold sqE at h
 split at h
 ·rename_i h1
  split at h
  exact⟨h1,by assumption⟩;exact absurd h (by decide)
 rename_i h1;exact absurd h h1
theorem fCmp_ok(na nb na' nb':Bool)(A B A' B':Option Addr)(n c m d n' c' m' d':Nat)(a b:Rat)(w:World)(ha:Fr w na A n c nb B m d a)(hb:Fr w na' A' n' c' nb' B' m' d' b)(sa:Sm a)(sb:Sm b) :
    Calls Tryz.prog 106 #[.agg #[.bool na,.slice A n c,.bool nb,.slice B m d],.agg #[.bool na',.slice A' n' c',.bool nb',.slice B' m' d']] w λe w'=>e=.returned (.tuple #[.int .i64 (cmpQ a b),.int .i64 0])/\Below w.heap.size w w':=by
 rw[<- Zzz];obtain⟨R,hR⟩:=Gz (Zda (a.num*b.den) (b.num*a.den));rw[hR];replace hR:=Za hR;have hmx:=Gt
 have h1:=Za (Zdk sa.1 sb.dn);have h2:=Za (Zdk sb.1 sa.dn);obtain⟨W0,a4,J,⟨q0,q1,q2⟩,s0⟩:=Zd0 w 41 #[.bool na,.slice A n c,.bool nb,.slice B m d] 41 #[.bool na',.slice A' n' c',.bool nb',.slice B' m' d'] 26 #[.int .i64 0];have hA:=Za (ha.below J);have hD:=Za (hb.below J);clear ha hb sa sb;obtain⟨a0,a1,a2,a3,-⟩:=q0.four;have hq:=Za (Qx q0 (Qx q1 q2));clear q0 q1 q2
 go_enter_defers Tryz.func106,Tryz.ntmps106
 go_wp2_with fail;refine(Zei na nb A B n c m d a W0 hA.out).mono ?_;rintro e w1 ⟨rfl,y⟩;have O:Below w.heap.size w w1:=J.trans (y.mono J.size);have s1:W0.heap.size<=w1.heap.size:=y.size;replace hA:=Za (hA.out.below y);replace hD:=Za (hD.out.below y);obtain⟨q0,q1,q2⟩:=hq.out;replace q0:=Zc y q0;replace q1:=Zc y q1;replace q2:=Zc y q2;clear a4 hq y J a0 a1 a2 a3;obtain⟨b0,b1,b2,b3,-⟩:=q1.four;have hq:=Za (Qx q0 (Qx q1 q2));clear q0 q1 q2;go_wp2_with fail;refine(Zfk w1).mono ?_;rintro e w1 ⟨rfl,rfl⟩;go_wp2_with fail;refine(Zei na' nb' A' B' n' c' m' d' b w1 hD.out).mono ?_;rintro e w2 ⟨rfl,I⟩;have hB:=Za (O.trans (I.mono O.size));have sz:=Za hB.out.size;have s2:w1.heap.size<=w2.heap.size:=I.size;replace hA:=Za (hA.out.below I);replace hD:=Za (hD.out.below I);obtain⟨q0,q1,q2⟩:=hq.out;replace q0:=Za (Zc I q0);replace q1:=Za (Zc I q1);replace q2:=Za (Zc I q2);clear hq I O b0 b1 b2 b3;go_wp2_with fail;refine(Zfk w2).mono ?_;rintro e w2 ⟨rfl,rfl⟩;obtain⟨a0,a1,a2,a3,-⟩:=q0.out.four;obtain⟨b0,b1,b2,b3,-⟩:=q1.out.four;go_wp2_with fail
 refine Z7 [10] (λW'=>W'.cell? ⟨w.heap.size,0,none⟩=some (.bool na)/\W'.cell? ⟨w.heap.size,1,none⟩=some (.slice A n c)/\W'.cell? ⟨w.heap.size,2,none⟩=some (.bool nb)/\W'.cell? ⟨w.heap.size,3,none⟩=some (.slice B m d)/\W'.cell? ⟨w.heap.size+1,0,none⟩=some (.bool na')/\W'.cell? ⟨w.heap.size+1,1,none⟩=some (.slice A' n' c')/\W'.cell? ⟨w.heap.size+1,2,none⟩=some (.bool nb')/\W'.cell? ⟨w.heap.size+1,3,none⟩=some (.slice B' m' d')) hmx ⟨a0,a1,a2,a3,b0,b1,b2,b3⟩ (λ_=>?_);refine Zjw 4 [0,1,3,4] rfl (by kernel_rfl) ⟨a0,a1,a2,a3,b0,b1,b2,b3⟩ ?_
 iterate 4 (refine tkA ?_;try simp only[Qb,Zg4,Zgk,Zgx,Gr,Gq,Gp])
 refine tk0 ?_;refine wpAnyL_o 2 λK hK=>?_;go_simp;refine(Zff na nb na' nb' A B A' B' n c m d n' c' m' d' a b w2.drew hA.out hD.out h1.out).mono ?_;rintro e w3 ⟨h,nu,U,k1,u,rfl,hU⟩;replace h:=Zv h;replace hU:=Za hU;replace q0:=Za (Zc h q0.out);replace q1:=Za (Zc h q1.out);replace q2:=Za (Zc h q2.out);replace hA:=Za (hA.out.below h);replace hD:=Za (hD.out.below h);replace hB:=Za (hB.out.trans (h.mono sz.out));replace sz:=Za (Qj sz.out h.size);clear a0 a1 a2 a3 b0 b1 b2 b3;obtain⟨a0,a1,a2,a3,-⟩:=q0.out.four;obtain⟨b0,b1,b2,b3,-⟩:=q1.out.four;clear h;refine hK.out _ _ (λ_=>⟨a0,a1,a2,a3,b0,b1,b2,b3⟩) ?_;clear hK K
 try simp only[Qb,Zg4,Zgk,Zgx]
 refine wpAnyL_o 5 λK hK=>?_;go_simp;refine(Zff na' nb' na nb A' B' A B n' c' m' d' n c m d b a w3 hD.out hA.out h2.out).mono ?_;rintro e w4 ⟨o,nv,V,k2,v,rfl,hV⟩;replace hU:=Za (hU.out.below o);replace hV:=Za hV;replace q0:=Za (Zc o q0.out);replace q1:=Za (Zc o q1.out);replace q2:=Za (Zc o q2.out);replace hA:=Za (hA.out.below o);replace hD:=Za (hD.out.below o);replace hB:=Za (hB.out.trans (o.mono sz.out));replace sz:=Za (Qj sz.out o.size);clear a0 a1 a2 a3 b0 b1 b2 b3;obtain⟨a0,a1,a2,a3,-⟩:=q0.out.four;obtain⟨b0,b1,b2,b3,-⟩:=q1.out.four;clear o;refine hK.out _ _ (λ_=>⟨a0,a1,a2,a3,b0,b1,b2,b3⟩) ?_;clear hK K
 try simp only[Qb,Zg4,Zgk,Zgx]
 refine wpAnyL_o 6 λK hK=>?_;go_simp;refine(Zqm nu nv U V k1 u k2 v _ _ w4 hU.out hV.out).mono ?_;rw[hR.out];rintro e w5 ⟨rfl,C⟩;replace q0:=Za (Zc C q0.out);replace q1:=Za (Zc C q1.out);replace q2:=Za (Zc C q2.out);replace hA:=Za (hA.out.below C);replace hD:=Za (hD.out.below C);replace hB:=Za (hB.out.trans (C.mono sz.out));replace sz:=Za (Qj sz.out C.size);clear a0 a1 a2 a3 b0 b1 b2 b3;obtain⟨a0,a1,a2,a3,-⟩:=q0.out.four;obtain⟨b0,b1,b2,b3,-⟩:=q1.out.four;clear C;have x0:=q2.out.cell 0;have f0:=q2.out.frozen 0;simp at x0;refine hK.out _ _ (λ_=>⟨a0,a1,a2,a3,b0,b1,b2,b3⟩) ?_;clear hK K
 try simp only[Qb,Zg4,Zgk,Zgx]
 refine Zjw 3 [7,8,9] rfl (by kernel_rfl) ⟨a0,a1,a2,a3,b0,b1,b2,b3⟩ ?_
 iterate 3 (refine tkA ?_;try simp only[Qb,Zg4,Zgk,Zgx,Gr,Gq,Gp])
 refine tk0 ?_;refine Zm (i:=10) rfl (by kernel_rfl) (by kernel_rfl) (λK hK=>?_);go_simp;obtain⟨W6,T,a5,Y,kW,kB,s6⟩:=Zy 0 hB.out (by omega) q2.out;rw[T];refine hK.out _ _ ?_;clear hK K
 try simp only[Qb,Zg4,Zgk,Zgx]
 refine wpAnyL_fin ?_;have r4:=Y.cell 0;simp at r4;go_wp2_with fail;refine leaves_cons (f:=147) (args:=#[.pointer (some ⟨w.heap.size+1+1,0,none⟩)]) (by simp) (by simp[go_sem]) ?_;refine(Zg2 _ _).mono ?_;rintro e u' w'' ⟨rfl,rfl,rfl⟩;refine⟨.tuple #[.int .i64 R,.int .i64 0],by simp[results,Tryz.results106,go_sem,r4],rfl,a5⟩
section
variable{k n m:Nat}{Q:List (List Rat)}
end
section
variable{A:Option Addr}{n c:Nat}{rs:List RX}{w:World}
end
open Go.RowKit Go.Shelf
attribute [local go_sem] Oper.semAt_some
theorem Zfg(z:Int):Rat.divInt z 1=(z:Rat):=by
 have h:=Rat.num_divInt_den ((z:Int):Rat);rw[Rat.num_intCast,Rat.den_intCast]at h;exact h
def Zbl(B0:Nat)(q:Rat)(fr ca mv x0 x1 al as_:Nat)(i:Nat)(v:Value)(w:World):Prop:=
 if i=fr then ∃ A n c,v=.agg #[.bool false,.slice A n c]/\Wd w false A n c 1 else Zaj B0 q ca mv x0 x1 al as_ i v w
theorem Zhq{B0:Nat}{q:Rat}{fr ca mv x0 x1 al as_ i:Nat}{v:Value}{w w':World}(hb:Below w.heap.size w w')(h:Zbl B0 q fr ca mv x0 x1 al as_ i v w):Zbl B0 q fr ca mv x0 x1 al as_ i v w':=by
 unfold Zbl at h ⊢
 split at h
 ·rename_i h1;rw[Gx h1]
  obtain⟨A,n,c,e,hf⟩:=h;exact⟨A,n,c,e,hf.below hb⟩
 ·rename_i h1;rw[Gw h1]
  exact Zhi hb h
theorem Zkg{C m:Nat}:∀ (f c r:Nat) (Z:List (List Int)) (ng:Bool) (last:Int),okZ C m f c r Z last->BdZ C m (Zar f c r Z ng last).1
 | 0,_,_,_,_,_,h=>h.1
 | f+1,c,r,Z,ng,last,h=>by
  by_cases h0:r=Z.length;rw[Znf h0];exact(Zyo h).1
  ·obtain⟨q,hq⟩:∃ q,Zbo (λi=>Zah Z i c == 0) Z.length Z.length r=q:=⟨_,rfl⟩
   by_cases hn:q=Z.length;rw[Zmf h0 hq hn];exact Zkg f _ _ _ _ _ (Zr5 h h0 hq hn);rw[Zmt h0 hq hn];exact Zkg f _ _ _ _ _ (Zr2 h h0 hq hn)
theorem Zv9{X:Nat->Nat->Rat}{n m k:Nat}(h:k<n):(Zjm X n m).drop (n-(k+1))=((Qk (m-n)).map λc=>X (n-1-k) (n+c))::(Zjm X n m).drop (n-k):=by
 unfold Zjm;have hl:n-(k+1)<((Qk n).map λi=>(Qk (m-n)).map λc=>X i (n+c)).length:=by rw[Qd,Qh];omega
 rw[List.drop_eq_getElem_cons hl,show n-(k+1)+1=n-k by omega];congr 1;rw[List.getElem_map,List.getElem_range,show n-(k+1)=n-1-k by omega]
theorem Zyx{X:Nat->Nat->Rat}{n m j t:Nat}(hj:j<n)(ht:t<m-n){L:List RF}{i:Nat}(hL:L.map RF.q=(Zjm X n m).drop (i+1))(hij:i<j){y:RF}(hy:L[j-(i+1)]?=some y):y.q.length=m-n/\y.q[t]?.getD 0=X j (n+t):=by
 have h1:(L.map RF.q)[j-(i+1)]?=some y.q:=by rw[Qf,hy];rfl
 rw[hL,List.getElem?_drop,show i+1+(j-(i+1))=j by omega]at h1;unfold Zjm at h1;rw[Qf,Qv hj]at h1;simp only[Option.map_some,Option.some.injEq]at h1;rw[<- h1];refine⟨by simp,?_⟩;rw[Qf,Qv ht];rfl
theorem Zyy(A:Option Addr)(n c m:Nat)(Q:List (List Rat))(w:World)(h:MFL w A n c Q)(hn0:0<n)(hn9:n<=900)(hnm:n<m)(hm9:m<=900)(hm:∀ i,i<n->(Q[i]?.getD []).length=m)(i9:okZ (pw 200) m n 0 0 (Z8 Q) 1)(hfin:Zrh Q n m)(hrk:(Zar n 0 0 (Z8 Q) false 1).2.1=n)
    (X:Nat->Nat->Rat) (hX:Zg6 (λi j=>(Zah (Zar n 0 0 (Z8 Q) false 1).1 i j:Rat)) X n m) :
    Calls Tryz.prog 82 #[.slice A n c,.int .i64 n] w λe w'=>∃ gO L,e=.returned (.tuple #[.slice (some ⟨gO,0,none⟩) n n,.bool true])/\Below w.heap.size w w'/\w.heap.size<=gO/\MatB 35 41 w' gO L/\L.map RF.q=Zjm X n m/\∀ r ∈ L,w.heap.size<=r.g:=by
 have hmx:=Gt
 have w6:(150:TypeId)≠39:=by decide
 have g9:(35:TypeId)≠41:=by decide
 have n9:Hid (NoT 3 25 149 150 39 41):=Za (by unfold NoT;decide);have B2:Hid (NoT 3 25 149 150 39 35):=Za (by unfold NoT;decide);obtain⟨iF,hi,w9,A2,x8⟩:=info_parts Zfm;obtain⟨iS,ki,y9,z9,w4⟩:=info_parts Zgz;have w7:=Za h.1;obtain⟨W0,z6,h5,q0,s0⟩:=Zbe w 3 #[.int .i64 n];replace h:=h.below h5;obtain⟨FIN,e7⟩:=Gz (Zar n 0 0 (Z8 Q) false 1);rw[e7]at hrk hX;obtain⟨E',rk,ng,la⟩:=FIN;have t8:rk=n:=hrk;subst t8;replace hX:Zg6 (λi j=>(Zah E' i j:Rat)) X rk m:=hX;obtain⟨n,hn⟩:∃ n,n=rk:=⟨_,rfl⟩;subst hn;replace e7:=Za e7;replace i9:=Za i9;replace hX:=Za hX;refine(callsIn_wide (n:=9)).1 ?_;refine callsIn_of_wp_marks Tryz.func82 rfl trivial ?_ rfl;simp only[Tryz.ntmps82,Qy,Qp,QC,Nat.reduceAdd,Nat.reduceSub,Qs,Qt,Qz,Qw,Qq,QB];refine wpIn_wide.2 ?_;go_wp2_with fail;refine(Zpa A n c m Q W0 h hn9 hm (by omega) hm9 hfin.1 hfin.2).mono ?_;rintro e w1 ⟨v,vb,L,rfl,i3,hM,hq,hP,l4⟩;obtain⟨vA,vc,rfl,s6,u8,-⟩:=hP.poly_at;rw[Qd,Qh]at s6 hP l4 ⊢;unfold maxLen at u8;have e3:=congrArg QA hq;rw[Qd]at e3;unfold Z8 at e3;rw[Qd,w7.out]at e3;obtain⟨go,cap,rfl,j7,l8,u5,p4,t5⟩:=hM.mat w6 (λe=>by rw[e]at e3;simp at e3;omega);rw[e3]at j7 ⊢;obtain⟨g3,p0⟩:=Gz w1.heap.size
 obtain⟨V,hV,d9,qv,kW,kB,sV⟩:=Zr 152 #[.slice (some ⟨go,0,none⟩) n cap,.slice vA n vc] (Qa w1.heap.size w1) (Qc _);have q4:=p4.below d9;have i8:=(Zc i3 q0).below d9 (Zc i3 q0).lt;rw[p0]at qv;obtain⟨x0,x1,-,-⟩:=qv.two;have nV:=i8.cell 0;simp at nV;replace e3:=Za e3;have t7:Hid (w.heap.size<W0.heap.size):=Za (by omega);have i1:Hid (Below W0.heap.size W0 V):=Za (i3.trans (d9.mono i3.size))
 have e9:∀ k,(k=go \/ k ∈ L.map RZ.g)->W0.heap.size<=k:=λk hk=>by
  rcases hk with rfl|hk;exact u5
  ·obtain⟨s,hs,rfl⟩:=List.mem_map.1 hk
   exact t5 s hs
 have g8:∀ k,(k=go \/ k ∈ L.map RZ.g)->k<g3:=λk hk=>by
  obtain⟨t,cs,hb,-⟩:=p4.boxes k hk;rw[<- p0];exact hb.lt
 replace e9:=Za e9;replace g8:=Za g8;replace qv:=Za qv;replace i8:=Za i8;clear hM p4 kW kB sV l4 hP h z6 u5 t5 q0 i3 d9;go_wp2_with fail;(try rw[p0]);(try rw[hV]);refine(Zim go n cap L (.slice vA n vc) m n V q4 e3.out hn0 hn9 j7 l8 (by omega) hm9 (by rw[hq];exact i9.out)).mono ?_;rw[hq,e7.out];rintro e w2 ⟨L2,ln,lA,lk,lc,rfl,A7,l6,-,g5,s8,j8⟩;replace g5:L2.map RZ.q=E':=g5;clear hV x0 x1 nV;have k9:¬ (g3=go \/ g3 ∈ L.map RZ.g):=λh=>by have:=g8.out g3 h;omega
 have q3:=j8.blk qv.out k9;have o9:=j8.blk i8.out (λh=>by have:=e9.out _ h;have:=t7.out;omega);have o1:Below W0.heap.size W0 w2:=i1.out.trans (j8.to_below e9.out i1.out.size);obtain⟨g6,x7⟩:=Gz w2.heap.size;obtain⟨V2,x4,e8,z3,kW,kB,sV⟩:=Zr 39 #[.bool ln,.slice lA lk lc] (Qa w2.heap.size w2) (Qc _);have c7:=q3.below e8 q3.lt;have c8:=o9.below e8 o9.lt;have i6:=s8.below e8;have f8:=Za (o1.trans (e8.mono o1.size));obtain⟨y0,y1,-,-⟩:=c7.two;have y5:=c8.cell 0;simp at y5;have t1:decide ((n:Int)<(n:Int))=false:=by simp
 obtain⟨gO,p9⟩:=Gz V2.heap.size;obtain⟨V3,m9⟩:=Gz (V2.alloc (.cells (Z0 (Qr n Zay)) 35));have c2:Below V2.heap.size V2 V3:=by rw[<- m9];exact(Qa _ _).alloc (Qc _) _
 have o6:Blk V3 gO 35 (Z0 (Qr n Zay)):=by rw[<- m9,<- p9];exact Qo _ _ _
 obtain⟨gX,v9⟩:=Gz V3.heap.size;obtain⟨V4,y4,g1,m8,-,-,s4⟩:=Zr 25 #[.slice (some ⟨gO,0,none⟩) n n] (Qa V3.heap.size V3) (Qc _);rw[v9]at m8;have A4:=Zlr (P:=Tryz.prog) 25 35 Tryz.underlying25 ki y9 z9 w4 (n:Int) n rfl (by omega) V2;rw[m9,p9]at A4;have l5:=(c7.below c2 c7.lt).below g1 (c7.below c2 c7.lt).lt;have i2:=(c8.below c2 c8.lt).below g1 (c8.below c2 c8.lt).lt;have k8:=(i6.below c2).below g1;have q2:=o6.below g1 o6.lt;obtain⟨z0,z1,-,-⟩:=l5.two;have A1:=i2.cell 0;simp at A1;have bc:(n:Int)<=(cap:Int):=by omega
 obtain⟨gB,u4⟩:=Gz V4.heap.size;obtain⟨V5,n4⟩:∃ Y,V4.alloc (.cells #[.slice (some ⟨go,0,none⟩) n cap] 149)=Y:=⟨_,rfl⟩;have J:Below V4.heap.size V4 V5:=by rw[<- n4];exact(Qa _ _).alloc (Qc _) _
 have i4:EnvK 3 25 149 150 39 V5 w.heap.size gX gO gB go n (some ⟨go,0,none⟩) cap L2:=⟨Zc J i2,Zc J m8,by rw[<- n4,<- u4];exact Qo _ _ _,k8.below J⟩;have o7:OutK 35 41 V5 W0.heap.size gO n []:=⟨by rw[Qe,QD];exact Zc J q2,λr hr=>(by cases hr),List.nodup_nil⟩
 have T:Below W0.heap.size W0 V5:=by
  have hs:=f8.out.size;exact f8.out.trans (((c2.trans (g1.mono c2.size)).trans (J.mono (c2.trans (g1.mono c2.size)).size)).mono hs)
 have w3:W0.heap.size<=gO:=by rw[<- p9];exact f8.out.size
 replace i4:=Za i4;replace o7:=Za o7;replace T:=Za T;replace i6:=Za i6;clear q4 j8 o1 A7 q3 o9 kW kB sV e9 g8 e8 k8 c2 g1 J o6 q2 c7 c8 s8 m8 z3 l5 i2 k9 i8 qv i1;go_wp2_with fail;(try rw[x7]);(try rw[x4]);(try rw[v9]);(try rw[y4]);refine(Zxv (some ⟨go,0,none⟩) n cap V4).mono ?_;rintro e w5 ⟨rfl,t4⟩;rw[n4]at t4;subst t4;rw[u4];go_wp2_with fail;refine(wpIn_wide (n:=9)).1 ?_
 refine Znn (by omega) (gf:=177) (lb:=#[.pointer (some ⟨gB,0,none⟩)]) rfl (enters_of Tryz.func177 (by kernel_rfl) rfl)
  (Zx8 8 (by omega) gB n cap (some ⟨go,0,none⟩) (L2.map RZ.rs) V5 (by rw[i4.out.2.2.1.cell];rfl) (i4.out.sl l6 j7 l8)) KpR.trans (λW l o o' _ h hc _=>KpR.put W l o o' h hc) (Qa _ _) (λ_=>rfl)
  (λk W=>(EnvK 3 25 149 150 39 W w.heap.size gX gO gB go n (some ⟨go,0,none⟩) cap L2/\∃ L:List RF,L.length=k/\L.map RF.q=(Zjm X n m).drop (n-k)/\OutK 35 41 W W0.heap.size gO (n-k) L)/\Below W0.heap.size W0 W)
  (OwnFrom.and (λk W W' row hs hg hr=>by
   obtain⟨h1,L,h2,h3,h4⟩:=hs;exact⟨h1.own hg (λr e=>(hr r e).2),L,h2,h3,h4.own hg (λr e=>(hr r e).2)⟩) (ownFrom_below (Qc _) T.out.size))
  ⟨⟨i4.out,[],rfl,by rw[Qe,Nat.sub_zero,List.drop_eq_nil_of_le];unfold Zjm;rw[Qd,Qh];exact Qc _,o7.out⟩,T.out⟩
  ?a1 ?assign ?body ?done
 case assign =>
  intro l k W K hk hK;dsimp only[Znc]
  gi_wp2
  exact hK
 case body =>
  intro l k W hk hI;obtain⟨⟨hE,L,v7,h6,hO⟩,h7⟩:=hI;obtain⟨i,n2⟩:=Gz (n-1-k);have r4:i<n:=by omega
  obtain⟨x,hx⟩:=Zcr (L:=L2) (i:=i) (by omega);have p6:rsAt (L2.map RZ.rs) i=x.rs:=by unfold rsAt;rw[Qf,hx];rfl
  have j2:x.q.length=m:=by
   have h1:=(Zkg n 0 0 (Z8 Q) false 1 i9.out).1;rw[e7.out]at h1;have h2:E'[i]?=some x.q:=by rw[<- g5,Qf,hx];rfl
   have h3:=h1 i (List.getElem?_eq_some_iff.1 h2).1;rw[h2]at h3;exact h3
  (try dsimp only);rw[n2,p6];dsimp only[RS.val,RZ.rs];rw[j2];rw[show n-k=i+1 by omega]at hO h6
  have z4:n-(k+1)=i:=by omega
  have r7:Hid (∀ r ∈ L,r.g<W.heap.size):=Za (λr hr=>(hO.2.1 r hr).1.1.lt);have v8:W0.heap.size<=W.heap.size:=h7.size
  have l1:Hid (BunK 3 25 149 150 39 35 41 w.heap.size gX gO gB go n (some ⟨go,0,none⟩) cap L2 W i Zay [] L W):=Za ⟨hE,by
      have h1:=hO.1;rw[List.replicate_succ',List.append_assoc]at h1;exact h1,OwnF.nil _ _ _,λr hr=>(hO.2.1 r hr).1.1,QE _ _⟩
  obtain⟨d1,d2,d3,d4,d5⟩:=hX.out;replace d1:=Za d1;replace d2:=Za d2;replace d3:=Za d3;replace d4:=Za d4;replace d5:=Za d5
  have g4:Hid (∀ j,x.q[j]?.getD 0=Zah E' i j):=Za (λj=>by
   rw[<- g5];unfold Zah;rw[Qf,hx];rfl)
  have nW:=hE.1.cell 0;simp at nW;replace hO:=Za hO;replace hE:=Za hE;replace h6:=Za h6;replace h7:=Za h7;replace n2:=Za n2;replace p6:=Za p6
  gi_wp2_with fail
  clear nW
  gi_loopw [13] (λkv wr=>∃ (t:Nat) (cur:RS),kv=.int .i64 ((n:Int)+(t:Int))/\t<=m-n/\BunK 3 25 149 150 39 35 41 w.heap.size gX gO gB go n (some ⟨go,0,none⟩) cap L2 W i cur ((Qk t).map λc=>X i (n+c)) L wr) (λkv _=>(m-intOf kv).toNat)
  case atStart=>exact⟨0,Zay,by go_num,Nat.zero_le _,l1.out⟩
  case round =>
   clear l1;obtain⟨t,cur,rfl,C0,b2⟩:=hrel;by_cases hlt:t<m-n
   ·skip
    have t2:decide ((n:Int)+(t:Int)<(m:Int))=true:=Gv (by omega);have bnt:(0:Int)<=(n:Int)+(t:Int):=by omega
    have bnm:(n:Int)+(t:Int)<(m:Int):=by omega
    obtain⟨zn,zA,zk,zc,c0,c1,hz⟩:=(b2.1.2.2.2.row hx).1.at_ (i:=n+t) (by rw[j2];omega);rw[g4.out]at hz;have nc:=b2.1.1.cell 0;simp at nc;have e1:((n:Int)+(t:Int)).toNat=n+t:=by omega
    replace b2:=Za b2
    gi_wp2_with fail
    have O:Hid (∀ wx,Below wr.heap.size wr wx->wx.cell? ⟨x.g,(n+t)*2,none⟩=some (.bool zn)/\wx.cell? ⟨x.g,(n+t)*2+1,none⟩=some (.slice zA zk zc)):=Za (λwx u=>⟨Zb u c0,Zb u c1⟩);have U:Below wr.heap.size wr wr.drew:=Zf (Qa _ _) 1;refine Zwu [] hmx (by kernel_rfl) O U (λhxs=>?_);refine Zjw 4 [0,1,2,3] rfl (by kernel_rfl) (O.out _ U) ?_
    iterate 4 (refine tkA ?_;try simp only[Qb,Zg4,Zgk,Zgx,Gr,Gq,Gp])
    refine tk0 ?_;refine Za2 [(4,56),(5,57),(6,51),(7,58),(9,14)] (λi=>match i with|6=>[8]|_=>[]) [(4,56),(5,57),(6,51),(8,59),(7,58),(9,14)] (Zbl wr.heap.size ((Zah E' i (n+t)):Rat) 4 5 6 7 8 9 8) 2 (by kernel_rfl) (λ_ _ _ _ _ hb h=>Zhq hb h) (λwx h=>O.out _ (U.trans (h.mono U.size))) ?hop1 ?hfin1
    case hop1 =>
     intro p hp;simp only[Qm,Ql,or_false]at hp;simp only[Qg,Qe,Zap,Qb,Zg4,Zgk,Zgx];rcases hp with rfl|rfl|rfl|rfl|rfl
     ·intro ν wx hb hP
      refine Zl (i:=4) rfl (λK hK=>?_);go_simp;refine(Zbf 1 wx (by decide) (by decide)).mono ?_;rintro e w5 ⟨J,d0,D0,e0,f0,rfl,hN⟩;obtain rfl:d0=false:=hN.1;exact hK.out _ _ ⟨_,rfl,(by simp only[Zbl];exact⟨_,_,_,rfl,hN⟩),J,trivial⟩
     ·intro ν wx hb hP
      have u:=U.trans (hb.mono U.size);have h0:=hP (4,56) (by simp) (by kernel_rfl);simp only[Zbl]at h0;obtain⟨D0,e0,f0,hν,hN⟩:=h0;rw[hν];refine Zl (i:=5) rfl (λK hK=>?_);go_simp;refine(Zfi zn zA D0 zk zc e0 f0 (Zah E' i (n+t)) 1 wx (hz.below u) hN (by decide)).mono ?_;rintro e w5 ⟨J,b4,A5,k5,c5,b6,B5,m5,d5,rfl,I⟩;rw[Zfg]at I;exact hK.out _ _ ⟨_,rfl,(by simp only[Zbl,Zaj];exact⟨_,_,_,_,_,_,_,_,rfl,I⟩),J,trivial⟩
     ·intro ν wx hb hP
      have h0:=hP (5,57) (by simp) (by kernel_rfl);simp only[Zbl,Zaj]at h0;obtain⟨b4,A5,k5,c5,b6,B5,m5,d5,hν,I⟩:=h0;rw[hν];refine Zl (i:=6) rfl (λK hK=>?_);go_simp;refine hK.out _ _ ⟨_,rfl,(by simp only[Zbl,Zaj];exact⟨_,_,_,_,_,_,_,_,rfl,I⟩),Qa _ _,?_⟩;exact⟨_,.int .i64 0,rfl,Or.inl ⟨by kernel_rfl,λW2 _=>by go_simp⟩,by simp[Zbl,Zaj],trivial⟩
     ·intro ν wx hb hP
      have h0:=hP (6,51) (by simp) (by kernel_rfl);simp only[Zbl,Zaj]at h0;obtain⟨b4,A5,k5,c5,b6,B5,m5,d5,hν,I⟩:=h0;rw[hν];refine Zl (i:=7) rfl (λK hK=>?_);go_simp;exact hK.out _ _ ⟨_,rfl,(by simp only[Zbl,Zaj];exact⟨_,_,_,_,_,_,_,_,rfl,I⟩),Qa _ _,trivial⟩
     ·intro ν wx hb hP
      refine Zl (i:=9) rfl (λK hK=>?_);go_simp;exact hK.out _ _ ⟨_,rfl,(by simp only[Zbl,Zaj];exact⟨_,rfl,hb.size,Qo _ _ _⟩),(Qa _ _).alloc (Qc _) _,trivial⟩
    case hfin1 =>
     intro ν wx hb hP;have h9:=hP (4,56) (by simp);have h0:=hP (5,57) (by simp);have h1:=hP (6,51) (by simp);have h2:=hP (7,58) (by simp);have h3:=hP (8,59) (by simp);have h4:=hP (9,14) (by simp);simp only[Zbl,Zaj]at h9 h0 h1 h2 h4;obtain⟨y0,y1,y2,h9,-⟩:=h9;obtain⟨a0,a1,a2,a3,a4,a5,a6,a7,h0,-⟩:=h0;obtain⟨p5,m2,p7,n0,p2,o0,n5,l9,h1,-⟩:=h1;obtain⟨ssn,o8,ssk,ssc,ssm,p3,ssj,ssd,h2,ssf⟩:=h2;obtain⟨gss,h4,kv,qv⟩:=h4;simp only[Qg,Qe,Zap,Qb,Zg4,Zgk,Zgx];rw[h9,h0,h1,h2,(show ν 59=Value.int .i64 0 by simpa [Zbl,Zaj]using h3),h4];clear h9 h0 h1 h2 h3 h4 hP ν;have u:=U.trans (hb.mono U.size);have C:=qv.four;have b1:wr.heap.size<=gss:=kv;refine(Zal ssn o8 ssk ssc ssm p3 ssj ssd u b1 qv).elim (λZss hq=>?_);have c0:=C.1;have f9:=C.2.1;have g2:=C.2.2.1;have c3:=C.2.2.2.1;have f0:=C.2.2.2.2.1;have f1:=C.2.2.2.2.2.1;have f2:=C.2.2.2.2.2.2.1;have f3:=C.2.2.2.2.2.2.2;have hZ:=hq.1;refine wpAnyL_o 10 λK hK=>?_;go_simp;(try rw[hZ]);refine hK.out _ _ (λ_=>O.out _ hq.2.1) ?_;clear hK K
     try simp only[Qb,Zg4,Zgk,Zgx]
     refine Zgl 1 [11] rfl (by kernel_rfl) (O.out _ hq.2.1) ?_
     (refine tkA ?_;try simp only[Qb,Zg4,Zgk,Zgx,Gr,Gq,Gp])
     refine tk0 ?_;refine wpAnyL_fin ?_;have m1:=hq.2.1;have ssb:=Za hq.2.2.1;have i0:Hid (wr.heap.size<=gss):=Za b1;replace ssf:=Za (Fr.keep ssf hq.2.2.2.1);clear hq hZ c0 f9 g2 c3 f0 f1 f2 f3 C qv kv b1 u hb U O hxs;have d9:=b2.out.below m1;have g7:Fr Zss ssn o8 ssk ssc ssm p3 ssj ssd (upS (λi j=>(Zah E' i j:Rat)) X i (n+t) (i+1)):=by rw[Z0s _ _ _ _ _ (Qc _)];exact ssf.out
     have l7:Hid (∀ r ∈ L,r.g≠gss):=Za (λr hr e=>by
      have a1:=r7.out r hr;have a2:=b2.out.2.2.2.2.size;have a3:=i0.out;omega)
     have i7:Hid (cur.val.ownBlock≠some gss):=Za (λe=>by
      obtain⟨cs,a1,-,-⟩:=b2.out.2.2.1.ownBlk _ e;have a2:=a1.lt;have a3:=i0.out;omega)
     have l0:Hid (W.heap.size<=gss):=Za (Qj b2.out.2.2.2.2.size i0.out);have B7:Hid (∀ k,k=gss->∃ t cs,Blk Zss k t cs/\NoLimb cs):=Za (λk hk=>⟨_,_,hk▸ssb.out,Zfq _ _ _ _ _ _ _ _⟩);have z5:Hid (∀ W',Kept (λk=>k=gss) Zss W'->BunK 3 25 149 150 39 35 41 w.heap.size gX gO gB go n (some ⟨go,0,none⟩) cap L2 W i cur ((Qk t).map λc=>X i (n+c)) L W'):=Za (λW' hk=>d9.turn n9.out g9 ssb.out (Zfq _ _ _ _ _ _ _ _) l7.out i7.out l0.out hk);replace g7:=Za g7;replace d9:=Za d9;clear ssf c0 c1 nc hz b2 d9
     gi_wp2_with fail
     gi_loopw [16] (λjv wx=>∃ (j:Nat) (sn:Bool) (sA:Option Addr) (sk sc:Nat) (sm:Bool) (sB:Option Addr) (sj sd:Nat),jv=.int .i64 j/\i+1<=j/\j<=n/\Blk wx gss 41 #[.bool sn,.slice sA sk sc,.bool sm,.slice sB sj sd]/\Fr wx sn sA sk sc sm sB sj sd (upS (λi j=>(Zah E' i j:Rat)) X i (n+t) j)/\Kept (λk=>k=gss) Zss wx) (λjv _=>(n-intOf jv).toNat)
     case atStart=>exact⟨i+1,ssn,o8,ssk,ssc,ssm,p3,ssj,ssd,by go_num,Qc _,by omega,ssb.out,g7.out,QE _ _⟩
     case round =>
      clear g7 ssb;obtain⟨j,sn,sA,sk,sc,sm,sB,sj,sd,rfl,C2,C6,qs,f5,f4⟩:=hrel;have T:=z5.out _ f4;by_cases hjn':j<n
      ·skip
       have t3:decide ((j:Int)<(n:Int))=true:=Gv (by omega);have C7:(0:Int)<=(j:Int):=by omega
       have bjn:(j:Int)<(n:Int):=by omega
       have bjm:(j:Int)<(m:Int):=by omega
       have ej:((j:Nat):Int).toNat=j:=by omega
       obtain⟨zn,zA,zk,zc,c0,c1,hz⟩:=(T.1.2.2.2.row hx).1.at_ (i:=j) (by rw[j2];omega);rw[g4.out]at hz;have nc:=T.1.1.cell 0;simp at nc;replace T:=Za T;replace qs:=Za qs;replace f5:=Za f5;replace f4:=Za f4
       gi_wp2_with fail
       have c4:Hid (∀ wx,Below wr.heap.size wr wx->wx.cell? ⟨x.g,(j)*2,none⟩=some (.bool zn)/\wx.cell? ⟨x.g,(j)*2+1,none⟩=some (.slice zA zk zc)):=Za (λwx u=>⟨Zb u c0,Zb u c1⟩);have a8:Below wr.heap.size wr wr.drew:=Zf (Qa _ _) 1;refine Zwu [] hmx (by kernel_rfl) c4 a8 (λhxs=>?_);refine Zjw 4 [0,1,2,3] rfl (by kernel_rfl) (c4.out _ a8) ?_
       iterate 4 (refine tkA ?_;try simp only[Qb,Zg4,Zgk,Zgx,Gr,Gq,Gp])
       refine tk0 ?_;refine Za2 [(4,72),(5,73),(6,67),(7,74),(9,17)] (λi=>match i with|6=>[8]|_=>[]) [(4,72),(5,73),(6,67),(8,75),(7,74),(9,17)] (Zbl wr.heap.size ((Zah E' i j):Rat) 4 5 6 7 8 9 8) 2 (by kernel_rfl) (λ_ _ _ _ _ hb h=>Zhq hb h) (λwx h=>c4.out _ (a8.trans (h.mono a8.size))) ?hop2 ?hfin2
       case hop2 =>
        intro p hp;simp only[Qm,Ql,or_false]at hp;simp only[Qg,Qe,Zap,Qb,Zg4,Zgk,Zgx];rcases hp with rfl|rfl|rfl|rfl|rfl
        ·intro ν wx hb hP
         refine Zl (i:=4) rfl (λK hK=>?_);go_simp;refine(Zbf 1 wx (by decide) (by decide)).mono ?_;rintro e w5 ⟨J,d0,D0,e0,f0,rfl,hN⟩;obtain rfl:d0=false:=hN.1;exact hK.out _ _ ⟨_,rfl,(by simp only[Zbl];exact⟨_,_,_,rfl,hN⟩),J,trivial⟩
        ·intro ν wx hb hP
         have u:=a8.trans (hb.mono a8.size);have h0:=hP (4,72) (by simp) (by kernel_rfl);simp only[Zbl]at h0;obtain⟨D0,e0,f0,hν,hN⟩:=h0;rw[hν];refine Zl (i:=5) rfl (λK hK=>?_);go_simp;refine(Zfi zn zA D0 zk zc e0 f0 (Zah E' i j) 1 wx (hz.below u) hN (by decide)).mono ?_;rintro e w5 ⟨J,b4,A5,k5,c5,b6,B5,m5,d5,rfl,I⟩;rw[Zfg]at I;exact hK.out _ _ ⟨_,rfl,(by simp only[Zbl,Zaj];exact⟨_,_,_,_,_,_,_,_,rfl,I⟩),J,trivial⟩
        ·intro ν wx hb hP
         have h0:=hP (5,73) (by simp) (by kernel_rfl);simp only[Zbl,Zaj]at h0;obtain⟨b4,A5,k5,c5,b6,B5,m5,d5,hν,I⟩:=h0;rw[hν];refine Zl (i:=6) rfl (λK hK=>?_);go_simp;refine hK.out _ _ ⟨_,rfl,(by simp only[Zbl,Zaj];exact⟨_,_,_,_,_,_,_,_,rfl,I⟩),Qa _ _,?_⟩;exact⟨_,.int .i64 0,rfl,Or.inl ⟨by kernel_rfl,λW2 _=>by go_simp⟩,by simp[Zbl,Zaj],trivial⟩
        ·intro ν wx hb hP
         have h0:=hP (6,67) (by simp) (by kernel_rfl);simp only[Zbl,Zaj]at h0;obtain⟨b4,A5,k5,c5,b6,B5,m5,d5,hν,I⟩:=h0;rw[hν];refine Zl (i:=7) rfl (λK hK=>?_);go_simp;exact hK.out _ _ ⟨_,rfl,(by simp only[Zbl,Zaj];exact⟨_,_,_,_,_,_,_,_,rfl,I⟩),Qa _ _,trivial⟩
        ·intro ν wx hb hP
         refine Zl (i:=9) rfl (λK hK=>?_);go_simp;exact hK.out _ _ ⟨_,rfl,(by simp only[Zbl,Zaj];exact⟨_,rfl,hb.size,Qo _ _ _⟩),(Qa _ _).alloc (Qc _) _,trivial⟩
       case hfin2 =>
        intro ν wx hb hP;have h9:=hP (4,72) (by simp);have h0:=hP (5,73) (by simp);have h1:=hP (6,67) (by simp);have h2:=hP (7,74) (by simp);have h3:=hP (8,75) (by simp);have h4:=hP (9,17) (by simp);simp only[Zbl,Zaj]at h9 h0 h1 h2 h4;obtain⟨y0,y1,y2,h9,-⟩:=h9;obtain⟨a0,a1,a2,a3,a4,a5,a6,a7,h0,-⟩:=h0;obtain⟨p5,m2,p7,n0,p2,o0,n5,l9,h1,-⟩:=h1;obtain⟨ccn,m0,cck,ccc,ccm,n8,ccj,ccd,h2,ccf⟩:=h2;obtain⟨gcc,h4,kv,qv⟩:=h4;simp only[Qg,Qe,Zap,Qb,Zg4,Zgk,Zgx];rw[h9,h0,h1,h2,(show ν 75=Value.int .i64 0 by simpa [Zbl,Zaj]using h3),h4];clear h9 h0 h1 h2 h3 h4 hP ν;have u:=a8.trans (hb.mono a8.size);have C:=qv.four;have b1:wr.heap.size<=gcc:=kv;refine(Zal ccn m0 cck ccc ccm n8 ccj ccd u b1 qv).elim (λZcc hq=>?_);have c0:=C.1;have f9:=C.2.1;have g2:=C.2.2.1;have c3:=C.2.2.2.1;have f0:=C.2.2.2.2.1;have f1:=C.2.2.2.2.2.1;have f2:=C.2.2.2.2.2.2.1;have f3:=C.2.2.2.2.2.2.2;have hZ:=hq.1;refine wpAnyL_o 10 λK hK=>?_;go_simp;(try rw[hZ]);refine hK.out _ _ (λ_=>c4.out _ hq.2.1) ?_;clear hK K
        try simp only[Qb,Zg4,Zgk,Zgx]
        refine Zgl 1 [11] rfl (by kernel_rfl) (c4.out _ hq.2.1) ?_
        (refine tkA ?_;try simp only[Qb,Zg4,Zgk,Zgx,Gr,Gq,Gp])
        refine tk0 ?_;refine wpAnyL_fin ?_;have b3:=hq.2.1;have ccb:=Za hq.2.2.1;have B8:Hid (wr.heap.size<=gcc):=Za b1;replace ccf:=Za (Fr.keep ccf hq.2.2.2.1);clear hq hZ c0 f9 g2 c3 f0 f1 f2 f3 C qv kv b1 u hb a8 c4 hxs;have b0:=T.out.below b3;have j4:=f4.out.below b3;have b9:=Zc b3 qs.out;have b7:=f5.out.below b3;obtain⟨y,hy⟩:=Zcr (L:=L) (i:=j-(i+1)) (by have:=congrArg QA h6.out;rw[Qd,List.length_drop]at this;unfold Zjm at this;rw[Qd,Qh]at this;omega);obtain⟨o3,B1⟩:=Zyx hjn' hlt h6.out (by omega) hy;obtain⟨⟨-,A0,x6⟩,-⟩:=hO.out.2.1 y (Qu hy);rw[o3]at A0;unfold maxLen at x6
        have u9:(Qr i Zay++cur::L.map RF.rs)[j]?=some y.rs:=by
         rw[Qn (by rw[Qi];omega),Qi,show j-i=j-(i+1)+1 by omega,List.getElem?_cons_succ,Qf,hy];rfl
        have k0:=b0.1.1.cell 0;simp at k0;have k1:=b0.1.2.1.cell 0;simp at k1;have k2:=b0.2.1.cell j;rw[Zbs u9]at k2;simp only[RF.rs]at k2;rw[o3]at k2;obtain⟨n3,A3,k3,c3,m3,B3,j3,u6,r0,r1,r2,r3,p8⟩:=(b0.2.2.2.1 y (Qu hy)).at_ (i:=t) (by rw[o3];exact hlt);rw[B1]at p8;obtain⟨u0,u1,u2,u3,-⟩:=ccb.out.four;have j1:=(d3.out i j).sm (by decide) (by decide);have k7:=(d4.out j (n+t)).sm (by decide) (by decide);have z8:Hid (SmN 600 600 ((Zah E' i j:Rat)*X j (n+t))):=Za ((d3.out i j).mulN (d4.out j (n+t)));have B9:(0:Int)<=(t:Int):=by omega
        have btm:(t:Int)<((m-n:Nat):Int):=by omega
        have et:(n:Int)+(t:Int)-(n:Int)=(t:Int):=by omega
        have C5:((t:Nat):Int).toNat=t:=by omega
        have C3:IntKind.i64.wrap (t:Int)=(t:Int):=by rw[IntKind.wrap_i64];omega
        replace b0:=Za b0;replace j4:=Za j4;replace b9:=Za b9;replace b7:=Za b7;clear c0 c1 nc hz u9 T f4 qs f5
        gi_wp2_with fail
        have d8:Hid (∀ wx,Below Zcc.heap.size Zcc wx->wx.cell? ⟨gcc,0,none⟩=some (.bool ccn)/\wx.cell? ⟨gcc,1,none⟩=some (.slice m0 cck ccc)/\wx.cell? ⟨gcc,2,none⟩=some (.bool ccm)/\wx.cell? ⟨gcc,3,none⟩=some (.slice n8 ccj ccd)/\wx.cell? ⟨gX,0,none⟩=some (.slice (some ⟨gO,0,none⟩) n n)/\wx.cell? ⟨w.heap.size,0,none⟩=some (.int .i64 n)/\wx.cell? ⟨gO,j,none⟩=some (.slice (some ⟨y.g,0,none⟩) (m-n) y.c)/\wx.cell? ⟨y.g,t*4,none⟩=some (.bool n3)/\wx.cell? ⟨y.g,t*4+1,none⟩=some (.slice A3 k3 c3)/\wx.cell? ⟨y.g,t*4+2,none⟩=some (.bool m3)/\wx.cell? ⟨y.g,t*4+3,none⟩=some (.slice B3 j3 u6)):=Za (λwx u=>⟨Zb u u0,Zb u u1,Zb u u2,Zb u u3,Zb u k1,Zb u k0,Zb u k2,Zb u r0,Zb u r1,Zb u r2,Zb u r3⟩);have e2:Below Zcc.heap.size Zcc Zcc.drew:=Zf (Qa _ _) 1;refine Zwu [] hmx (by kernel_rfl) d8 e2 (λhxs3=>?_);refine Zjw 10 [0,1,2,3,4,5,6,7,8,9] rfl (by kernel_rfl) (d8.out _ e2) ?_
        iterate 10 (refine tkA ?_;try simp only[Qb,Zg4,Zgk,Zgx,Gr,Gq,Gp])
        refine tk0 ?_;refine Za2 [(10,87),(11,76),(12,88),(14,19)] (λi=>match i with|11=>[13]|_=>[]) [(10,87),(11,76),(13,89),(12,88),(14,19)] (Zaj Zcc.heap.size ((Zah E' i j:Rat)*X j (n+t)) 10 11 12 13 14 13) 2 (by kernel_rfl) (λ_ _ _ _ _ hb h=>Zhi hb h) (λwx h=>d8.out _ (e2.trans (h.mono e2.size))) ?hop3 ?hfin3
        case hop3 =>
         intro p hp;simp only[Qm,Ql,or_false]at hp;simp only[Qg,Qe,Zap,Qb,Zg4,Zgk,Zgx];rcases hp with rfl|rfl|rfl|rfl
         ·intro ν wx hb hP
          have u:=e2.trans (hb.mono e2.size);refine Zl (i:=10) rfl (λK hK=>?_);go_simp;refine(Zvv ccn ccm n3 m3 m0 n8 A3 B3 cck ccc ccj ccd k3 c3 j3 u6 _ _ wx (ccf.out.below u) (p8.below u) j1 k7).mono ?_;rintro e w5 ⟨J,b4,A5,k5,c5,b6,B5,m5,d5,rfl,I⟩;exact hK.out _ _ ⟨_,rfl,(by simp only[Zaj];exact⟨_,_,_,_,_,_,_,_,rfl,I⟩),J,trivial⟩
         ·intro ν wx hb hP
          have h0:=hP (10,87) (by simp) (by kernel_rfl);simp only[Zaj]at h0;obtain⟨b4,A5,k5,c5,b6,B5,m5,d5,hν,I⟩:=h0;rw[hν];refine Zl (i:=11) rfl (λK hK=>?_);go_simp;refine hK.out _ _ ⟨_,rfl,(by simp only[Zaj];exact⟨_,_,_,_,_,_,_,_,rfl,I⟩),Qa _ _,?_⟩;exact⟨_,.int .i64 0,rfl,Or.inl ⟨by kernel_rfl,λW2 _=>by go_simp⟩,by simp[Zaj],trivial⟩
         ·intro ν wx hb hP
          have h0:=hP (11,76) (by simp) (by kernel_rfl);simp only[Zaj]at h0;obtain⟨b4,A5,k5,c5,b6,B5,m5,d5,hν,I⟩:=h0;rw[hν];refine Zl (i:=12) rfl (λK hK=>?_);go_simp;exact hK.out _ _ ⟨_,rfl,(by simp only[Zaj];exact⟨_,_,_,_,_,_,_,_,rfl,I⟩),Qa _ _,trivial⟩
         ·intro ν wx hb hP
          refine Zl (i:=14) rfl (λK hK=>?_);go_simp;exact hK.out _ _ ⟨_,rfl,(by simp only[Zaj];exact⟨_,rfl,hb.size,Qo _ _ _⟩),(Qa _ _).alloc (Qc _) _,trivial⟩
        case hfin3 =>
         intro ν wx hb hP;have h0:=hP (10,87) (by simp);have h1:=hP (11,76) (by simp);have h2:=hP (12,88) (by simp);have h3:=hP (13,89) (by simp);have h4:=hP (14,19) (by simp);simp only[Zaj]at h0 h1 h2 h4;obtain⟨a0,a1,a2,a3,a4,a5,a6,a7,h0,-⟩:=h0;obtain⟨p5,m2,p7,n0,p2,o0,n5,l9,h1,-⟩:=h1;obtain⟨wwn,t6,wwk,wwc,wwm,r5,wwj,wwd,h2,wwf⟩:=h2;obtain⟨gww,h4,kv,qv⟩:=h4;simp only[Qg,Qe,Zap,Qb,Zg4,Zgk,Zgx];rw[h0,h1,h2,(show ν 89=Value.int .i64 0 by simpa [Zaj]using h3),h4];clear h0 h1 h2 h3 h4 hP ν;have u:=e2.trans (hb.mono e2.size);have C:=qv.four;have b1:Zcc.heap.size<=gww:=kv;refine(Zal wwn t6 wwk wwc wwm r5 wwj wwd u b1 qv).elim (λZww hq=>?_);have c0:=C.1;have f9:=C.2.1;have g2:=C.2.2.1;have c3:=C.2.2.2.1;have f0:=C.2.2.2.2.1;have f1:=C.2.2.2.2.2.1;have f2:=C.2.2.2.2.2.2.1;have f3:=C.2.2.2.2.2.2.2;have hZ:=hq.1;refine wpAnyL_o 15 λK hK=>?_;go_simp;(try rw[hZ]);refine hK.out _ _ (λ_=>d8.out _ hq.2.1) ?_;clear hK K
         try simp only[Qb,Zg4,Zgk,Zgx]
         refine Zgl 1 [16] rfl (by kernel_rfl) (d8.out _ hq.2.1) ?_
         (refine tkA ?_;try simp only[Qb,Zg4,Zgk,Zgx,Gr,Gq,Gp])
         refine tk0 ?_;refine wpAnyL_fin ?_;have b5:=hq.2.1;have wwb:=Za hq.2.2.1;replace wwf:=Za (Fr.keep wwf hq.2.2.2.1);clear hq hZ c0 f9 g2 c3 f0 f1 f2 f3 C qv kv u hb e2 d8 hxs3;have q5:=b0.out.below b5;have o2:=j4.out.below b5;have j9:=Zc b5 b9.out;have l3:=b7.out.below b5;have m7:=(d5.out i (n+t) j).sm (by decide) (by decide);have y8:=z8.out.sm (by decide) (by decide);obtain⟨s0,s1,s2,s3,-⟩:=j9.four;obtain⟨v0,v1,v2,v3,-⟩:=wwb.out.four;replace q5:=Za q5;replace o2:=Za o2;replace j9:=Za j9;clear r0 r1 r2 r3 u0 u1 u2 u3 k0 k1 k2 j1 k7 b0 j4 b9 b7 p8 ccf ccb b3 b5
         gi_wp2_with fail
         refine⟨trivial,?_⟩;refine(CallsIn.inRound l (callsIn_wide.2 (Zvt sn sm wwn wwm sA sB t6 r5 sk sc sj sd wwk wwc wwj wwd _ _ Zww l3 wwf.out m7 y8))).mono ?_;rintro e w8 ⟨f6,n6,A6,k6,c6,m6,B6,j6,d6,rfl,f7⟩;rw[<- Zyj (λi j=>(Zah E' i j:Rat)) X (i:=i) (k:=n+t) (t:=j) (by omega)]at f7;have e6:=Zc f6 j9.out;have q1:=o2.out.below f6;obtain⟨W9,g0,y6,q9,i5,-,s9⟩:=Zal (B:=gss) n6 A6 k6 c6 m6 B6 j6 d6 (Qa gss w8) (Qc _) e6;have n7:=Za (Fr.keep f7 i5)
         have z7:Hid (Kept (λk=>k=gss) Zss W9):=Za (by
          rw[<- g0];exact((((q1.set_ (p:=⟨gss,0,none⟩) (.inl rfl) _).set_ (p:=⟨gss,1,none⟩) (.inl rfl) _).set_ (p:=⟨gss,2,none⟩) (.inl rfl) _).set_ (p:=⟨gss,3,none⟩) (.inl rfl) _))
         replace q9:=Za q9;clear s0 s1 s2 s3 v0 v1 v2 v3 l3 f7 f6 i5 q1;obtain⟨s0,s1,s2,s3,s4,s5,m4,s7⟩:=e6.four
         gi_wp2_with fail
         (try rw[g0]);clear s0 s1 s2 s3 s4 s5 m4 s7 g0 e6
         go_roundw
         case measure=>simp[intOf];omega
         case rel=>exact⟨j+1,n6,A6,k6,c6,m6,B6,j6,d6,by go_num,by omega,by omega,q9.out,n7.out,z7.out⟩
      ·obtain rfl:j=n:=by omega
       have t3:decide ((j:Int)<(j:Int))=false:=by simp
       have C8:(0:Int)<=(i:Int):=by omega
       have bim:(i:Int)<(m:Int):=by omega
       have bij:(i:Int)<(j:Int):=by omega
       have ei:((i:Nat):Int).toNat=i:=by omega
       obtain⟨zn,zA,zk,zc,c0,c1,hz⟩:=(T.1.2.2.2.row hx).1.at_ (i:=i) (by rw[j2];omega);rw[g4.out]at hz;have nc:=T.1.1.cell 0;simp at nc;replace T:=Za T;replace qs:=Za qs;replace f5:=Za f5;replace f4:=Za f4
       gi_wp2_with fail
       have d7:Hid (∀ wx,Below wr.heap.size wr wx->wx.cell? ⟨x.g,(i)*2,none⟩=some (.bool zn)/\wx.cell? ⟨x.g,(i)*2+1,none⟩=some (.slice zA zk zc)):=Za (λwx u=>⟨Zb u c0,Zb u c1⟩);have e4:Below wr.heap.size wr wr.drew:=Zf (Qa _ _) 1;refine Zwu [] hmx (by kernel_rfl) d7 e4 (λhxs=>?_);refine Zjw 4 [0,1,2,3] rfl (by kernel_rfl) (d7.out _ e4) ?_
       iterate 4 (refine tkA ?_;try simp only[Qb,Zg4,Zgk,Zgx,Gr,Gq,Gp])
       refine tk0 ?_;refine Za2 [(4,101),(5,102),(6,96),(7,103),(9,21)] (λi=>match i with|6=>[8]|_=>[]) [(4,101),(5,102),(6,96),(8,104),(7,103),(9,21)] (Zbl wr.heap.size ((Zah E' i i):Rat) 4 5 6 7 8 9 8) 2 (by kernel_rfl) (λ_ _ _ _ _ hb h=>Zhq hb h) (λwx h=>d7.out _ (e4.trans (h.mono e4.size))) ?hop4 ?hfin4
       case hop4 =>
        intro p hp;simp only[Qm,Ql,or_false]at hp;simp only[Qg,Qe,Zap,Qb,Zg4,Zgk,Zgx];rcases hp with rfl|rfl|rfl|rfl|rfl
        ·intro ν wx hb hP
         refine Zl (i:=4) rfl (λK hK=>?_);go_simp;refine(Zbf 1 wx (by decide) (by decide)).mono ?_;rintro e w5 ⟨J,d0,D0,e0,f0,rfl,hN⟩;obtain rfl:d0=false:=hN.1;exact hK.out _ _ ⟨_,rfl,(by simp only[Zbl];exact⟨_,_,_,rfl,hN⟩),J,trivial⟩
        ·intro ν wx hb hP
         have u:=e4.trans (hb.mono e4.size);have h0:=hP (4,101) (by simp) (by kernel_rfl);simp only[Zbl]at h0;obtain⟨D0,e0,f0,hν,hN⟩:=h0;rw[hν];refine Zl (i:=5) rfl (λK hK=>?_);go_simp;refine(Zfi zn zA D0 zk zc e0 f0 (Zah E' i i) 1 wx (hz.below u) hN (by decide)).mono ?_;rintro e w5 ⟨J,b4,A5,k5,c5,b6,B5,m5,d5,rfl,I⟩;rw[Zfg]at I;exact hK.out _ _ ⟨_,rfl,(by simp only[Zbl,Zaj];exact⟨_,_,_,_,_,_,_,_,rfl,I⟩),J,trivial⟩
        ·intro ν wx hb hP
         have h0:=hP (5,102) (by simp) (by kernel_rfl);simp only[Zbl,Zaj]at h0;obtain⟨b4,A5,k5,c5,b6,B5,m5,d5,hν,I⟩:=h0;rw[hν];refine Zl (i:=6) rfl (λK hK=>?_);go_simp;refine hK.out _ _ ⟨_,rfl,(by simp only[Zbl,Zaj];exact⟨_,_,_,_,_,_,_,_,rfl,I⟩),Qa _ _,?_⟩;exact⟨_,.int .i64 0,rfl,Or.inl ⟨by kernel_rfl,λW2 _=>by go_simp⟩,by simp[Zbl,Zaj],trivial⟩
        ·intro ν wx hb hP
         have h0:=hP (6,96) (by simp) (by kernel_rfl);simp only[Zbl,Zaj]at h0;obtain⟨b4,A5,k5,c5,b6,B5,m5,d5,hν,I⟩:=h0;rw[hν];refine Zl (i:=7) rfl (λK hK=>?_);go_simp;exact hK.out _ _ ⟨_,rfl,(by simp only[Zbl,Zaj];exact⟨_,_,_,_,_,_,_,_,rfl,I⟩),Qa _ _,trivial⟩
        ·intro ν wx hb hP
         refine Zl (i:=9) rfl (λK hK=>?_);go_simp;exact hK.out _ _ ⟨_,rfl,(by simp only[Zbl,Zaj];exact⟨_,rfl,hb.size,Qo _ _ _⟩),(Qa _ _).alloc (Qc _) _,trivial⟩
       case hfin4 =>
        intro ν wx hb hP;have h9:=hP (4,101) (by simp);have h0:=hP (5,102) (by simp);have h1:=hP (6,96) (by simp);have h2:=hP (7,103) (by simp);have h3:=hP (8,104) (by simp);have h4:=hP (9,21) (by simp);simp only[Zbl,Zaj]at h9 h0 h1 h2 h4;obtain⟨y0,y1,y2,h9,-⟩:=h9;obtain⟨a0,a1,a2,a3,a4,a5,a6,a7,h0,-⟩:=h0;obtain⟨p5,m2,p7,n0,p2,o0,n5,l9,h1,-⟩:=h1;obtain⟨ddn,r9,ddk,ddc,ddm,v5,ddj,ddd,h2,ddf⟩:=h2;obtain⟨gdd,h4,kv,qv⟩:=h4;simp only[Qg,Qe,Zap,Qb,Zg4,Zgk,Zgx];rw[h9,h0,h1,h2,(show ν 104=Value.int .i64 0 by simpa [Zbl,Zaj]using h3),h4];clear h9 h0 h1 h2 h3 h4 hP ν;have u:=e4.trans (hb.mono e4.size);have C:=qv.four;have b1:wr.heap.size<=gdd:=kv;refine(Zal ddn r9 ddk ddc ddm v5 ddj ddd u b1 qv).elim (λZdd hq=>?_);have c0:=C.1;have f9:=C.2.1;have g2:=C.2.2.1;have c3:=C.2.2.2.1;have f0:=C.2.2.2.2.1;have f1:=C.2.2.2.2.2.1;have f2:=C.2.2.2.2.2.2.1;have f3:=C.2.2.2.2.2.2.2;have hZ:=hq.1;refine wpAnyL_o 10 λK hK=>?_;go_simp;(try rw[hZ]);refine hK.out _ _ (λ_=>d7.out _ hq.2.1) ?_;clear hK K
        try simp only[Qb,Zg4,Zgk,Zgx]
        refine Zgl 1 [11] rfl (by kernel_rfl) (d7.out _ hq.2.1) ?_
        (refine tkA ?_;try simp only[Qb,Zg4,Zgk,Zgx,Gr,Gq,Gp])
        refine tk0 ?_;refine wpAnyL_fin ?_;have e5:=hq.2.1;have ddb:=Za hq.2.2.1;have B4:Hid (wr.heap.size<=gdd):=Za b1;replace ddf:=Za (Fr.keep ddf hq.2.2.2.1);clear hq hZ c0 f9 g2 c3 f0 f1 f2 f3 C qv kv b1 u hb e4 d7 hxs;have b0:=T.out.below e5;have b9:=Zc e5 qs.out;have b7:=f5.out.below e5;obtain⟨s0,s1,s2,s3,-⟩:=b9.four;obtain⟨v0,v1,v2,v3,-⟩:=ddb.out.four;have j1:=(d5.out i (j+t) j).sm (by decide) (by decide);have k7:=(d3.out i i).sm (by decide) (by decide);have m7:=d1.out i r4;replace b0:=Za b0;replace b9:=Za b9;clear c0 c1 nc hz T f4 qs f5 e5
        gi_wp2_with fail
        refine⟨trivial,?_⟩;refine(CallsIn.inRound l (callsIn_wide.2 (Zrq sn sm ddn ddm sA sB r9 v5 sk sc sj sd ddk ddc ddj ddd _ _ Zdd b7 ddf.out j1 k7 m7))).mono ?_;rintro e w8 ⟨f6,n6,A6,k6,c6,m6,B6,j6,d6,rfl,f7⟩;rw[show upS (λi j=>(Zah E' i j:Rat)) X i (j+t) j/(Zah E' i i:Rat)=X i (j+t) from(d2.out i (j+t) r4 (by omega) (by omega)).symm]at f7;have r6:=b0.out.below f6;have e6:=Zc f6 b9.out;obtain⟨W9,g0,y6,q9,i5,-,s9⟩:=Zal (B:=gss) n6 A6 k6 c6 m6 B6 j6 d6 (Qa gss w8) (Qc _) e6;have n7:=Za (Fr.keep f7 i5)
        have q7:Kept (λk=>k=gss) w8 W9:=by
         rw[<- g0];exact(((((QE (λk=>k=gss) w8).set_ (p:=⟨gss,0,none⟩) (.inl rfl) _).set_ (p:=⟨gss,1,none⟩) (.inl rfl) _).set_ (p:=⟨gss,2,none⟩) (.inl rfl) _).set_ (p:=⟨gss,3,none⟩) (.inl rfl) _)
        have c9:=r6.turn n9.out g9 e6 (Zfq _ _ _ _ _ _ _ _) l7.out i7.out l0.out q7;replace q9:=Za q9;clear s0 s1 s2 s3 v0 v1 v2 v3 b7 f7 f6 i5 b0 r6 q7 ddf ddb b9;obtain⟨s0,s1,s2,s3,s4,s5,m4,s7⟩:=e6.four;have kO:=c9.2.1.cell i;rw[Zbs (e:=cur) (by rw[Qn (by rw[Qi];exact Qc _),Qi,Nat.sub_self];rfl)]at kO;have kX:=c9.1.2.1.cell 0;simp at kX;have kz:=c9.2.1.frozen i;replace c9:=Za c9
        gi_wp2_with fail
        (try rw[g0]);clear s0 s1 s2 s3 s4 s5 m4 s7 g0 e6;obtain⟨x0,x1,x2,x3,-⟩:=q9.out.four;obtain⟨X0,n1⟩:=Gz W9.drew
        have U:Below W9.heap.size W9 X0:=by rw[<- n1];exact Zf (Qa _ _) 1
        have O:Hid (∀ wx,Below W9.heap.size W9 wx->wx.cell? ⟨gX,0,none⟩=some (.slice (some ⟨gO,0,none⟩) j j)/\wx.cell? ⟨gO,i,none⟩=some (.slice cur.A cur.n cur.c)/\wx.cell? ⟨gss,0,none⟩=some (.bool n6)/\wx.cell? ⟨gss,1,none⟩=some (.slice A6 k6 c6)/\wx.cell? ⟨gss,2,none⟩=some (.bool m6)/\wx.cell? ⟨gss,3,none⟩=some (.slice B6 j6 d6)):=Za (λwx u=>⟨Zb u kX,Zb u kO,Zb u x0,Zb u x1,Zb u x2,Zb u x3⟩);refine Zwu [10] hmx (by kernel_rfl) O (by rw[n1];exact U) (λhxs=>?_);rw[n1];refine Zjw 7 [0,1,2,3,4,5,6] rfl (by kernel_rfl) (O.out _ U) ?_
        iterate 7 (refine tkA ?_;try simp only[Qb,Zg4,Zgk,Zgx,Gr,Gq,Gp])
        refine tk0 ?_;obtain⟨Y1,k4⟩:=Gz (X0.alloc (.cells #[.bool n6,.slice A6 k6 c6,.bool m6,.slice B6 j6 d6] 41));obtain⟨ga,o5⟩:=Gz X0.heap.size;have v4:Below X0.heap.size X0 Y1:=by rw[<- k4];exact(Qa _ _).alloc (Qc _) _
        have q8:Blk Y1 ga 41 #[.bool n6,.slice A6 k6 c6,.bool m6,.slice B6 j6 d6]:=by rw[<- k4,<- o5];exact Qo _ _ _
        have a8:Below W9.heap.size W9 Y1:=U.trans (v4.mono U.size);refine wpAnyL_o 7 λK hK=>?_;go_simp;(try rw[k4]);(try rw[o5]);refine hK.out _ _ (λ_=>O.out _ a8) ?_;clear hK K k4 o5
        try simp only[Qb,Zg4,Zgk,Zgx]
        have a9:=c9.out.below a8;have q6:=n7.out.below a8;have w0:=a9.2.2.2.2.size;refine wpAnyL_o 8 λK hK=>?_;rw[Gx (by rfl)];refine Zhg _ (.tmp 116) (.tmp 118) 35 rfl W.heap.size 41 iF Tryz.underlying35 hi w9 A2 x8 cur.val ((Qk t).map λc=>X i (j+c)) rfl a9.2.2.1 _ (some ⟨ga,0,none⟩) 1 1 [⟨n6,A6,k6,c6,m6,B6,j6,d6,X i (j+t)⟩] rfl (Zbm _ q8) rfl (by intro e he;rw[List.mem_singleton]at he;subst he;exact q6) (by simp;omega) w0 ?_;intro v2 Y2 b8 j0 t9
        obtain⟨nA,nn,nc,rfl⟩:∃ A n c,v2=.slice A n c:=by
         obtain⟨A,c,e,-⟩:=b8.fl;exact⟨_,_,_,e⟩
        have l2:OwnF 41 Y2 W.heap.size (RS.val ⟨nA,nn,nc⟩) ((Qk (t+1)).map λc=>X i (j+c)):=by
         rw[List.range_succ,List.map_append];exact b8
        have h8:=a9.2.2.1.ownBlk
        have j5:Y2.cell? ⟨gX,0,none⟩=some (.slice (some ⟨gO,0,none⟩) j j)/\Y2.cell? ⟨gO,i,none⟩=some (.slice cur.A cur.n cur.c)/\Y2.cell? ⟨gss,0,none⟩=some (.bool n6)/\Y2.cell? ⟨gss,1,none⟩=some (.slice A6 k6 c6)/\Y2.cell? ⟨gss,2,none⟩=some (.bool m6)/\Y2.cell? ⟨gss,3,none⟩=some (.slice B6 j6 d6):=by
         have f:∀ (g o:Nat) (v:Value),g<W.heap.size \/ g=gO \/ g=gss->Y1.cell? ⟨g,o,none⟩=some v->Y2.cell? ⟨g,o,none⟩=some v:=λg o v hgg hv=>by
          rw[<- hv];refine World.cell?_of_block (j0.block g (Zo hv) (λe=>?_));obtain⟨cs,a1,-,a2⟩:=h8 g e.symm;rcases hgg with h1|h1|h1;omega;subst h1;exact g9 (a9.2.1.type a1);subst h1;exact i7.out e.symm
         have t0:gX<W.heap.size:=hE.out.2.1.lt;obtain⟨a0,a1,a2,a3,a4,a5⟩:=O.out _ a8;exact⟨f _ _ _ (.inl t0) a0,f _ _ _ (.inr (.inl rfl)) a1,f _ _ _ (.inr (.inr rfl)) a2,f _ _ _ (.inr (.inr rfl)) a3,f _ _ _ (.inr (.inr rfl)) a4,f _ _ _ (.inr (.inr rfl)) a5⟩
        refine hK.out _ _ (λ_=>j5) ?_;clear hK K
        try simp only[Qb,Zg4,Zgk,Zgx]
        have o4:=Za (a9.app n9.out B2.out g9 r7.out (cur':=⟨nA,nn,nc⟩) j0 l2 t9);have A8:=j5.2.1
        have y3:Y2.frozen? ⟨gO,i,none⟩=false:=by
         rw[World.frozen?_of_block (j0.block gO a9.2.1.lt (λe=>by
          obtain⟨cs,a1,-,-⟩:=h8 gO e.symm;exact g9 (a9.2.1.type a1)))]
         exact a9.2.1.frozen i
        refine Zgl 1 [9] rfl (by kernel_rfl) j5 ?_
        (refine tkA ?_;try simp only[Qb,Zg4,Zgk,Zgx,Gr,Gq,Gp])
        refine tk0 ?_;clear j5 b8 l2 h8 a9 q6 q8 v4 a8;refine Zm (i:=10) rfl (by kernel_rfl) (by kernel_rfl) (λK hK=>?_);go_simp;refine hK.out _ _ ?_;clear hK K
        try simp only[Qb,Zg4,Zgk,Zgx]
        refine wpAnyL_fin ?_;clear A8 y3 hxs O U kX kO kz x0 x1 x2 x3 j0 t9
        gi_wp2_with fail
        go_roundw
        case measure=>simp[intOf];omega
        case rel=>exact⟨t+1,⟨nA,nn,nc⟩,by go_num,by omega,o4.out⟩
   ·obtain rfl:t=m-n:=by omega
    have t2:decide ((n:Int)+((m-n:Nat):Int)<(m:Int))=false:=Gu (by omega);obtain⟨r,y7,u7⟩:=b2.out (by simp;omega) hO.out v8;have A9:KeepsOthers W wr:=b2.2.2.2.2.others (λk hk=>⟨_,_,hk▸hO.out.1⟩);have r8:Below W0.heap.size W0 wr:=h7.out.trans (b2.2.2.2.2.to_below (λk hk=>by rw[hk];exact w3) v8);have p1:=b2.1
    gi_wp2_with fail
    (try go_at_K);refine⟨A9,⟨λ_=>by rw[p1.2.2.1.cell];rfl,λ_=>p1.sl l6 j7 l8⟩,⟨p1,r::L,by rw[Qp,v7],?_,?_⟩,r8⟩
    rw[Qg,y7,h6.out,Zv9 hk,show n-k=i+1 by omega,show n-1-k=i by omega];rw[z4];exact u7
 case done =>
  intro D W hD hI hK
  have x5:∀ (W':World),W'=W.putObj D (.deferred none)->(EnvK 3 25 149 150 39 W' w.heap.size gX gO gB go n (some ⟨go,0,none⟩) cap L2/\∃ L:List RF,L.length=n/\L.map RF.q=(Zjm X n m).drop (n-n)/\OutK 35 41 W' W0.heap.size gO (n-n) L):=λW' e=>by
   obtain⟨⟨h1,L,h2,h3,h4⟩,-⟩:=hI;subst e;have hr:∀ r,some D=some r->∃ o:Obj,W.heap[r]?=some o/\o.isCells=false:=λr e=>by cases e;exact⟨_,hK,rfl⟩
   exact⟨h1.own (grownBy_putObj' W D _) hr,L,h2,h3,h4.own (grownBy_putObj' W D _) hr⟩
  have kX:=hI.1.1.2.1.cell 0;simp at kX;have h7:=hI.2;clear hI;go_wp2_with fail
  have x9:w.heap.size<=V5.heap.size:=by
   have h1:=T.out.size;have h2:=h5.size;omega
  refine⟨by simp,.inl ⟨_,_,rfl,run_takeDeferred hK,?_⟩⟩;obtain⟨C4,L,C1,v6,b8⟩:=x5 _ rfl;rw[Nat.sub_self]at v6 b8;refine⟨.tuple #[.slice (some ⟨gO,0,none⟩) n n,.bool true],by simp[results,Tryz.f82,go_sem],gO,L,rfl,(h5.trans (h7.mono h5.size)).trans (belowK_b (w:=V5) x9 W D _ _ hD hK rfl rfl),by have h2:=h5.size;omega,⟨⟨[],?_⟩,λr hr=>(b8.2.1 r hr).1,?_⟩,by rw[v6,List.drop_zero],λr hr=>Qj h5.size (b8.2.1 r hr).2⟩
  ·have h1:=b8.1
   rw[List.replicate_zero,Qq]at h1;rw[QD];exact h1
  ·rw[List.nodup_cons]
   refine⟨λhm=>?_,b8.2.2⟩;obtain⟨r,hr,e⟩:=List.mem_map.1 hm;obtain⟨es,zs,h1,-,-⟩:=(b8.2.1 r hr).1.1;rw[e]at h1;exact g9 (b8.1.type h1)
theorem Zzm(A:Option Addr)(n c m:Nat)(Q:List (List Rat))(w:World)(h:MFL w A n c Q)(hn0:0<n)(hn9:n<=900)(hnm:n<=m)(hm9:m<=900)(hm:∀ i,i<n->(Q[i]?.getD []).length=m)(U:okZ (pw 200) m n 0 0 (Z8 Q) 1)(hfin:Zrh Q n m)(b1:(Zar n 0 0 (Z8 Q) false 1).2.1<n) :
    Calls Tryz.prog 82 #[.slice A n c,.int .i64 n] w λe w'=>e=.returned (.tuple #[.slice none 0 0,.bool false])/\Below w.heap.size w w':=by
 have hmx:=Gt
 have c4:(150:TypeId)≠39:=by decide
 have e2:(35:TypeId)≠41:=by decide
 have d9:Hid (NoT 3 25 149 150 39 41):=Za (by unfold NoT;decide);have e0:Hid (NoT 3 25 149 150 39 35):=Za (by unfold NoT;decide);obtain⟨iF,hi,d7,e1,d6⟩:=info_parts Zfm;obtain⟨iS,ki,d4,d8,d5⟩:=info_parts Zgz;have c6:=Za h.1;obtain⟨W0,c7,a7,q0,s0⟩:=Zbe w 3 #[.int .i64 n];replace h:=h.below a7;obtain⟨FIN,y⟩:=Gz (Zar n 0 0 (Z8 Q) false 1);rw[y]at b1;obtain⟨E',rk,ng,la⟩:=FIN;replace b1:rk<n:=b1;replace y:=Za y;replace U:=Za U;refine(callsIn_wide (n:=9)).1 ?_;refine callsIn_of_wp_marks Tryz.func82 rfl trivial ?_ rfl;simp only[Tryz.ntmps82,Qy,Qp,QC,Nat.reduceAdd,Nat.reduceSub,Qs,Qt,Qz,Qw,Qq,QB];refine wpIn_wide.2 ?_;go_wp2_with fail;refine(Zpa A n c m Q W0 h hn9 hm (by omega) hm9 hfin.1 hfin.2).mono ?_;rintro e w1 ⟨v,vb,L,rfl,I,hM,hq,hP,a0⟩;obtain⟨vA,vc,rfl,b5,c0,-⟩:=hP.poly_at;rw[Qd,Qh]at b5 hP a0 ⊢;unfold maxLen at c0;have f:=congrArg QA hq;rw[Qd]at f;unfold Z8 at f;rw[Qd,c6.out]at f;obtain⟨go,cap,rfl,b9,c5,b7,a6,b2⟩:=hM.mat c4 (λe=>by rw[e]at f;simp at f;omega);rw[f]at b9 ⊢;obtain⟨g3,a9⟩:=Gz w1.heap.size;obtain⟨V,hV,T,qv,kW,kB,sV⟩:=Zr 152 #[.slice (some ⟨go,0,none⟩) n cap,.slice vA n vc] (Qa w1.heap.size w1) (Qc _)
 have b4:=a6.below T;have O:=(Zc I q0).below T (Zc I q0).lt;rw[a9]at qv;obtain⟨x0,x1,-,-⟩:=qv.two;have nV:=O.cell 0;simp at nV;replace f:=Za f;have b3:Hid (w.heap.size<W0.heap.size):=Za (by omega);have J:Hid (Below W0.heap.size W0 V):=Za (I.trans (T.mono I.size))
 have u:∀ k,(k=go \/ k ∈ L.map RZ.g)->W0.heap.size<=k:=λk hk=>by
  rcases hk with rfl|hk;exact b7
  ·obtain⟨s,hs,rfl⟩:=List.mem_map.1 hk
   exact b2 s hs
 have C:∀ k,(k=go \/ k ∈ L.map RZ.g)->k<g3:=λk hk=>by
  obtain⟨t,cs,hb,-⟩:=a6.boxes k hk;rw[<- a9];exact hb.lt
 replace u:=Za u;replace C:=Za C;replace qv:=Za qv;replace O:=Za O;clear hM a6 kW kB sV a0 hP h c7 b7 b2 q0 I T;go_wp2_with fail;(try rw[a9]);(try rw[hV]);refine(Zim go n cap L (.slice vA n vc) m n V b4 f.out hn0 hn9 b9 c5 (by omega) hm9 (by rw[hq];exact U.out)).mono ?_;rw[hq,y.out];rintro e w2 ⟨L2,ln,lA,lk,lc,rfl,c3,d3,-,a1,b8,Y⟩;replace a1:L2.map RZ.q=E':=a1;clear hV x0 x1 nV;have a4:¬ (g3=go \/ g3 ∈ L.map RZ.g):=λh=>by have:=C.out g3 h;omega
 have q3:=Y.blk qv.out a4;have a8:=Y.blk O.out (λh=>by have:=u.out _ h;have:=b3.out;omega);have b0:Below W0.heap.size W0 w2:=J.out.trans (Y.to_below u.out J.out.size);obtain⟨g6,c1⟩:=Gz w2.heap.size;obtain⟨V2,d0,o,c2,kW,kB,sV⟩:=Zr 39 #[.bool ln,.slice lA lk lc] (Qa w2.heap.size w2) (Qc _);have a2:=q3.below o q3.lt;have a3:=a8.below o a8.lt;have b6:=b8.below o;have a5:=Za (b0.trans (o.mono b0.size));obtain⟨y0,y1,-,-⟩:=a2.two;have c8:=a3.cell 0;simp at c8;have t1:decide ((rk:Int)<(n:Int))=true:=Gv (by omega);have c9:Hid (Below w.heap.size w V2):=Za (a7.trans (a5.out.mono a7.size));clear b4 Y b0 c3 q3 a8 kW kB sV u C o a2 a3 b8 c2 a4 O qv J b6 hm hfin U;go_wp2_with fail;(try rw[c1]);(try rw[d0]);go_wp2_with fail;exact⟨.tuple #[.slice none 0 0,.bool false],by simp[results,Tryz.f82,go_sem],rfl,c9.out⟩
