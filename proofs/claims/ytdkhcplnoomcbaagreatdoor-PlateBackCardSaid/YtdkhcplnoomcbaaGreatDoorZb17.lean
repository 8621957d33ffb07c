/- The reference's GreatSystem. Numbers with a common -/
import Derived.Deep.LoopGhost
import Derived.Test.YtdkhcplnoomcbaaGreatDoorZb16
set_option maxRecDepth 100000
set_option maxHeartbeats 8000000
set_option linter.unusedSimpArgs false
set_option linter.unusedVariables false
namespace Go.Proofs.YtdkhcplnoomcbaaGreatDoor
open Go.RowKit
open Below renaming refl→Qa
open Nat renaming le_refl→Qb,le_trans→Qv
open Act renaming put→Qc
open List renaming length_map→Qd,map_nil→Qe,getElem?_map→Qf,map_cons→Qg,length_range→Qh,length_replicate→Qi,range→Qj,not_mem_nil→Qk,mem_cons→Ql,getElem?_append_right→Qm,length_cons→Qn,nil_append→Qo,replicate→Qp,mem_of_getElem?→Qs,getElem?_range→Qt,append_toArray→Qu,size_toArray→Qw,push_toArray→Qx,length→Qy,cons_append→Qz,length_nil→QC,append_nil→QD
open _root_.Array renaming replicate_succ→Qq,replicate_zero→Qr
open Rat renaming intCast_mul→QA,natCast_mul→QB
open Blk renaming new→QE
open Kept renaming refl→QF
attribute [local go_sem] Zf
def CD(D M:Nat)(q:Rat):Prop:=∃ z:Int,q=(z:Rat)/(D:Rat)/\z.natAbs<=M
section
variable{D M N:Nat}{p q:Rat}
theorem CD.mono(h:CD D M q)(hM:M<=N):CD D N q:=by
 obtain⟨z,e,hz⟩:=h;exact⟨z,e,Qv hz hM⟩
theorem CD.add(h:CD D M p)(k:CD D N q):CD D (M+N) (p+q):=by
 obtain⟨y,e,hy⟩:=h;obtain⟨z,f,hz⟩:=k;refine⟨y+z,?_,by omega⟩;rw[e,f,Rat.intCast_add]
 grind
theorem CD.sub(h:CD D M p)(k:CD D N q):CD D (M+N) (p-q):=by
 obtain⟨y,e,hy⟩:=h;obtain⟨z,f,hz⟩:=k;refine⟨y-z,?_,by omega⟩;rw[e,f,Rat.intCast_sub]
 grind
theorem CD.mul{E:Nat}(h:CD D M p)(k:CD E N q):CD (D*E) (M*N) (p*q):=by
 obtain⟨y,e,hy⟩:=h;obtain⟨z,f,hz⟩:=k;refine⟨y*z,?_,by rw[Int.natAbs_mul];exact Nat.mul_le_mul hy hz⟩;rw[e,f,QA,QB]
 grind
theorem CD.whole(z:Int):CD 1 z.natAbs (z:Rat):=⟨z,by grind,Qb _⟩
theorem CD.lift{E:Nat}(h:CD D M q)(hE:0<E):CD (D*E) (M*E) q:=by
 obtain⟨z,e,hz⟩:=h;refine⟨z*E,?_,by rw[Int.natAbs_mul];exact Nat.mul_le_mul hz Gk⟩
 have h1:(E:Rat)≠0:=by
  intro h0;have:((E:Int):Rat)=((0:Int):Rat):=by simpa using h0
  have:=Rat.intCast_inj.1 this;omega
 rw[e,QA,QB];have h2:((E:Int):Rat)=(E:Rat):=by first|rfl|exact Rat.intCast_natCast E|push_cast
 rw[h2]
 grind
end
theorem Zs6{n:Nat}(f g:Nat->Rat):sumQ n (λi=>f i+g i)=sumQ n f+sumQ n g:=by
 exact EI
theorem Zf5{n:Nat}(f:Nat->Rat)(c:Rat):sumQ n (λi=>f i*c)=sumQ n f*c:=by
 exact EI
theorem Zjb{n m:Nat}(f:Nat->Nat->Rat):sumQ n (λr=>sumQ m (λk=>f r k))=sumQ m (λk=>sumQ n (λr=>f r k)):=by
 induction n with
 | zero=>simp only[sumQ];rw[Zd4 (λ_ _=>rfl)]
 | succ n ih=>simp only[sumQ];rw[ih,Zs6]
theorem Zjn{n:Nat}{f:Nat->Rat}(h:∀ i,i<n->0<=f i):0<=sumQ n f:=by
 induction n with
 | zero=>simp only[sumQ];exact Rat.le_refl
 | succ n ih =>
  simp only[sumQ];have h1:=ih λi hi=>h i Gk;have h2:=h n Gk
  grind
theorem Zmg{n:Nat}{f:Nat->Rat}(h:∀ i,i<n->0<=f i)(hs:sumQ n f=0):∀ i,i<n->f i=0:=by
 induction n with
 | zero=>intro i hi;omega
 | succ n ih =>
  simp only[sumQ]at hs;have h1:=Zjn (n:=n) λi hi=>h i Gk;have h2:=h n Gk;have h3:sumQ n f=0:=by grind
  have h4:f n=0:=by grind
  intro i hi;by_cases hin:i=n;rw[hin];exact h4;exact ih (λi hi=>h i Gk) h3 i Gk
section
variable{k n m:Nat}{Q:List (List Rat)}
end
section
variable{A:Option Addr}{n c:Nat}{rs:List RX}{w:World}
end
open Go.RowKit Go.Shelf
attribute [local go_sem] Oper.semAt_some
def Zbc(B0:Nat)(q:Rat)(fr ca mv x0 x1 al as_:Nat)(i:Nat)(v:Value)(w:World):Prop:=
 if i=fr then ∃ A n c,v=.agg #[.bool false,.slice A n c]/\Wd w false A n c 1 else Zar B0 q ca mv x0 x1 al as_ i v w
theorem Zgq{B0:Nat}{q:Rat}{fr ca mv x0 x1 al as_ i:Nat}{v:Value}{w w':World}(hb:Below w.heap.size w w')(h:Zbc B0 q fr ca mv x0 x1 al as_ i v w):Zbc B0 q fr ca mv x0 x1 al as_ i v w':=by
 unfold Zbc at h ⊢
 split at h
 ·rename_i h1;rw[Gx h1]
  obtain⟨A,n,c,e,hf⟩:=h;exact⟨A,n,c,e,hf.below hb⟩
 rename_i h1;rw[Gw h1];exact Zgg hb h
theorem Zi6{C m:Nat}:∀ (f c r:Nat) (Z:List (List Int)) (ng:Bool) (last:Int),okZ C m f c r Z last->BdZ C m (Zaw f c r Z ng last).1
 | 0,_,_,_,_,_,h=>h.1
 | f+1,c,r,Z,ng,last,h=>by
  by_cases h0:r=Z.length;rw[Zlu h0];exact(Zuz h).1;obtain⟨q,hq⟩:∃ q,Zbf (λi=>Zag Z i c == 0) Z.length Z.length r=q:=⟨_,rfl⟩;by_cases hn:q=Z.length;rw[Zkq h0 hq hn];exact Zi6 f _ _ _ _ _ (Zp3 h h0 hq hn);rw[Zk4 h0 hq hn];exact Zi6 f _ _ _ _ _ (Zp0 h h0 hq hn)
theorem Zs7{X:Nat->Nat->Rat}{n m k:Nat}(h:k<n):(Zj0 X n m).drop (n-(k+1))=((Qj (m-n)).map λc=>X (n-1-k) (n+c))::(Zj0 X n m).drop (n-k):=by
 unfold Zj0;have hl:n-(k+1)<((Qj n).map λi=>(Qj (m-n)).map λc=>X i (n+c)).length:=by rw[Qd,Qh];omega
 rw[List.drop_eq_getElem_cons hl,show n-(k+1)+1=n-k by omega];congr 1;rw[List.getElem_map,List.getElem_range,show n-(k+1)=n-1-k by omega]
theorem Zu6{X:Nat->Nat->Rat}{n m j t:Nat}(hj:j<n)(ht:t<m-n){L:List RF}{i:Nat}(hL:L.map RF.q=(Zj0 X n m).drop (i+1))(hij:i<j){y:RF}(hy:L[j-(i+1)]?=some y):y.q.length=m-n/\y.q[t]?.getD 0=X j (n+t):=by
 have h1:(L.map RF.q)[j-(i+1)]?=some y.q:=by rw[Qf,hy];rfl
 rw[hL,List.getElem?_drop,show i+1+(j-(i+1))=j by omega]at h1;unfold Zj0 at h1;rw[Qf,Qt hj]at h1;simp only[Option.map_some,Option.some.injEq]at h1;rw[<- h1];refine⟨by simp,?_⟩;rw[Qf,Qt ht];rfl
theorem IS{G:Prop}(h:G:=by
 rcases hk with rfl|hk;exact eL;obtain⟨s,hs,rfl⟩:=List.mem_map.1 hk;exact eM s hs):G:=h
theorem EJ{G:Prop}(h:G:=by
 rintro e w5 ⟨ao,cb,A5,k5,c5,dO,B5,m5,d5,rfl,aw⟩;rw[Zd1]at aw;exact hK.out _ _ ⟨_,rfl,(by simp only[Zbc,Zar];exact⟨_,_,_,_,_,_,_,_,rfl,aw⟩),ao,trivial⟩):G:=h
theorem EO{G:Prop}(h:G:=by
 intro ν wx hb hP;refine Zj (i:=9) rfl (λK hK=>?_);go_simp;exact hK.out _ _ ⟨_,rfl,(by simp only[Zbc,Zar];exact⟨_,rfl,hb.size,Blk.new _ _ _⟩),(Below.refl _ _).alloc (Nat.le_refl _) _,trivial⟩):G:=h
theorem EW{G:Prop}(h:G:=by
 simp only[Zbc,Zar]at h0;obtain⟨cb,A5,k5,c5,dO,B5,m5,d5,hν,aw⟩:=h0;rw[hν];refine Zj (i:=7) rfl (λK hK=>?_);go_simp;exact hK.out _ _ ⟨_,rfl,(by simp only[Zbc,Zar];exact⟨_,_,_,_,_,_,_,_,rfl,aw⟩),Below.refl _ _,trivial⟩):G:=h
theorem Eb{G:Prop}(h:G:=by
 intro ν wx hb hP;refine Zj (i:=4) rfl (λK hK=>?_);go_simp;refine(Zcn 1 wx Gi Gi).mono ?_;rintro e w5 ⟨ao,d0,D0,e0,f0,rfl,hN⟩;obtain rfl:d0=false:=hN.1;exact hK.out _ _ ⟨_,rfl,(by simp only[Zbc];exact⟨_,_,_,rfl,hN⟩),ao,trivial⟩):G:=h
theorem Ei{G:Prop}(h:G:=by
 simp only[Zbc,Zar]at h0;obtain⟨cb,A5,k5,c5,dO,B5,m5,d5,hν,aw⟩:=h0;rw[hν];refine Zj (i:=6) rfl (λK hK=>?_);go_simp;refine hK.out _ _ ⟨_,rfl,(by simp only[Zbc,Zar];exact⟨_,_,_,_,_,_,_,_,rfl,aw⟩),Below.refl _ _,?_⟩;exact⟨_,.int .i64 0,rfl,Or.inl ⟨by kernel_rfl,λW2 _=>by go_simp⟩,by simp[Zbc,Zar],trivial⟩):G:=h
theorem Zu7(A:Option Addr)(n c m:Nat)(Q:List (List Rat))(w:World)(h:MFL w A n c Q)(hn0:0<n)(hn9:n<=900)(hnm:n<m)(hm9:m<=900)(hm:∀ i,i<n->(Q[i]?.getD []).length=m)(i4:okZ (pw 200) m n 0 0 (Zab Q) 1)(hfin:Zpc Q n m)(hrk:(Zaw n 0 0 (Zab Q) false 1).2.1=n)
    (X:Nat->Nat->Rat) (hX:Zid (λi j=>(Zag (Zaw n 0 0 (Zab Q) false 1).1 i j:Rat)) X n m) :
    Calls Tryz.prog 87 #[.slice A n c,.int .i64 n] w λe w'=>∃ gO L,e=.returned (.tuple #[.slice (some ⟨gO,0,none⟩) n n,.bool true])/\Below w.heap.size w w'/\w.heap.size<=gO/\MatB 25 32 w' gO L/\L.map RF.q=Zj0 X n m/\∀ r ∈ L,w.heap.size<=r.g:=by
 have hmx:=Gt;have v9:(158:TypeId)≠30:=Gi;have g2:(25:TypeId)≠32:=Gi;have l6:Hid (NoT 3 135 165 158 30 32):=Zb (by unfold NoT;decide);have A2:Hid (NoT 3 135 165 158 30 25):=Zb (by unfold NoT;decide);obtain⟨iF,hi,z8,B2,y6⟩:=info_parts Zg9;obtain⟨iS,ki,y8,x5,z4⟩:=info_parts Zop;have w4:=Zb h.1;obtain⟨W0,y5,g5,q0,s0⟩:=Zbp w 3 #[.int .i64 n];replace h:=h.below g5;obtain⟨FIN,e5⟩:=Gz (Zaw n 0 0 (Zab Q) false 1);rw[e5]at hrk hX;obtain⟨E',rk,ng,la⟩:=FIN;have v5:rk=n:=hrk;subst v5;replace hX:Zid (λi j=>(Zag E' i j:Rat)) X rk m:=hX;obtain⟨n,hn⟩:∃ n,n=rk:=⟨_,rfl⟩;subst hn;replace e5:=Zb e5;replace i4:=Zb i4;replace hX:=Zb hX;refine(callsIn_wide (n:=9)).1 ?_;refine callsIn_of_wp_marks Tryz.func87 rfl trivial ?_ rfl;simp only[Tryz.ntmps87,Qw,Qn,QC,Nat.reduceAdd,Nat.reduceSub,Qq,Qr,Qx,Qu,Qo,Qz];refine wpIn_wide.2 ?_;go_wp2_with fail;refine(Znk A n c m Q W0 h hn9 hm Gk hm9 hfin.1 hfin.2).mono ?_;rintro e w1 ⟨v,vb,L,rfl,i3,hM,hq,hP,k4⟩;obtain⟨vA,vc,rfl,q5,v4,-⟩:=hP.poly_at;rw[Qd,Qh]at q5 hP k4 ⊢;unfold maxLen at v4;have d8:=congrArg Qy hq;rw[Qd]at d8;unfold Zab at d8;rw[Qd,w4.out]at d8;obtain⟨go,cap,rfl,i9,p0,eL,m4,eM⟩:=hM.mat v9 (λe=>by rw[e]at d8;simp at d8;omega);rw[d8]at i9 ⊢;obtain⟨g3,l9⟩:=Gz w1.heap.size
 obtain⟨V,hV,c9,qv,kW,kB,sV⟩:=Zap 167 #[.slice (some ⟨go,0,none⟩) n cap,.slice vA n vc] (Qa w1.heap.size w1) (Qb _);have r7:=m4.below c9;have g9:=(Zc i3 q0).below c9 (Zc i3 q0).lt;rw[l9]at qv;obtain⟨x0,x1,-,-⟩:=qv.two;have nV:=g9.cell 0;simp at nV;replace d8:=Zb d8;have q1:Hid (w.heap.size<W0.heap.size):=Zb Gk;have h7:Hid (Below W0.heap.size W0 V):=Zb (Gs i3 c9)
 have e3:∀ k,(k=go \/ k ∈ L.map RZ.g)->W0.heap.size<=k:=λk hk=>by
  exact IS
 have g1:∀ k,(k=go \/ k ∈ L.map RZ.g)->k<g3:=λk hk=>by
  obtain⟨t,cs,hb,-⟩:=m4.boxes k hk;rw[<- l9];exact hb.lt
 replace e3:=Zb e3;replace g1:=Zb g1;replace qv:=Zb qv;replace g9:=Zb g9;clear hM m4 kW kB sV k4 hP h y5 eL eM q0 i3 c9;go_wp2_with fail;(try rw[l9]);(try rw[hV]);refine(Zhl go n cap L (.slice vA n vc) m n V r7 d8.out hn0 hn9 i9 p0 Gk hm9 (by rw[hq];exact i4.out)).mono ?_;rw[hq,e5.out];rintro e w2 ⟨L2,ln,lA,lk,lc,rfl,z3,l2,-,g0,q7,i8⟩;replace g0:L2.map RZ.q=E':=g0;clear hV x0 x1 nV;have l1:¬ (g3=go \/ g3 ∈ L.map RZ.g):=λh=>by have:=g1.out g3 h;omega
 have q3:=i8.blk qv.out l1;have l3:=i8.blk g9.out (λh=>by have:=e3.out _ h;have:=q1.out;omega);have m1:Below W0.heap.size W0 w2:=h7.out.trans (i8.to_below e3.out h7.out.size);obtain⟨g6,y7⟩:=Gz w2.heap.size;obtain⟨V2,y9,e4,w9,kW,kB,sV⟩:=Zap 30 #[.bool ln,.slice lA lk lc] (Qa w2.heap.size w2) (Qb _);have b7:=q3.below e4 q3.lt;have b8:=l3.below e4 l3.lt;have h6:=q7.below e4;have e9:=Zb (Gs m1 e4);obtain⟨y0,y1,-,-⟩:=b7.two;have A9:=b8.cell 0;simp at A9;have t1:decide ((n:Int)<(n:Int))=false:=Gh;obtain⟨gO,o3⟩:=Gz V2.heap.size;obtain⟨V3,n0⟩:=Gz (V2.alloc (.cells (Zao (Qp n Zbl)) 25));have b4:Below V2.heap.size V2 V3:=by rw[<- n0];exact(Qa _ _).alloc (Qb _) _
 have l5:Blk V3 gO 25 (Zao (Qp n Zbl)):=by rw[<- n0,<- o3];exact QE _ _ _
 obtain⟨gX,r8⟩:=Gz V3.heap.size;obtain⟨V4,A8,f5,l4,-,-,s4⟩:=Zap 135 #[.slice (some ⟨gO,0,none⟩) n n] (Qa V3.heap.size V3) (Qb _);rw[r8]at l4;have x8:=Zso (P:=Tryz.prog) 135 25 Tryz.underlying135 ki y8 x5 z4 (n:Int) n rfl Gk V2;rw[n0,o3]at x8;have k9:=(b7.below b4 b7.lt).below f5 (b7.below b4 b7.lt).lt;have i0:=(b8.below b4 b8.lt).below f5 (b8.below b4 b8.lt).lt;have k7:=(h6.below b4).below f5;have q8:=l5.below f5 l5.lt;obtain⟨z0,z1,-,-⟩:=k9.two;have A0:=i0.cell 0;simp at A0;have bc:(n:Int)<=(cap:Int):=Gk;obtain⟨gB,v8⟩:=Gz V4.heap.size;obtain⟨V5,l8⟩:∃ Y,V4.alloc (.cells #[.slice (some ⟨go,0,none⟩) n cap] 165)=Y:=⟨_,rfl⟩;have ao:Below V4.heap.size V4 V5:=by rw[<- l8];exact(Qa _ _).alloc (Qb _) _
 have g8:EnvK 3 135 165 158 30 V5 w.heap.size gX gO gB go n (some ⟨go,0,none⟩) cap L2:=⟨Zc ao i0,Zc ao l4,by rw[<- l8,<- v8];exact QE _ _ _,k7.below ao⟩;have o1:OutK 25 32 V5 W0.heap.size gO n []:=⟨by rw[Qe,QD];exact Zc ao q8,λr hr=>(by cases hr),List.nodup_nil⟩
 have I:Below W0.heap.size W0 V5:=by
  have hs:=e9.out.size;exact e9.out.trans (((Gs b4 f5).trans (ao.mono (Gs b4 f5).size)).mono hs)
 have x9:W0.heap.size<=gO:=by rw[<- o3];exact e9.out.size
 replace g8:=Zb g8;replace o1:=Zb o1;replace I:=Zb I;replace h6:=Zb h6;clear r7 i8 m1 z3 q3 l3 kW kB sV e3 g1 e4 k7 b4 f5 ao l5 q8 b7 b8 q7 l4 w9 k9 i0 l1 g9 qv h7;go_wp2_with fail;(try rw[y7]);(try rw[y9]);(try rw[r8]);(try rw[A8]);refine(Zue (some ⟨go,0,none⟩) n cap V4).mono ?_;rintro e w5 ⟨rfl,p8⟩;rw[l8]at p8;subst p8;rw[v8];go_wp2_with fail;refine(wpIn_wide (n:=9)).1 ?_
 refine Zl1 Gk (gf:=151) (lb:=#[.pointer (some ⟨gB,0,none⟩)]) rfl (enters_of Tryz.func151 Gj rfl)
  (Zuq 8 Gk gB n cap (some ⟨go,0,none⟩) (L2.map RZ.rs) V5 (by rw[g8.out.2.2.1.cell];rfl) (g8.out.sl l2 i9 p0)) KpR.trans (λW l o o' _ h hc _=>KpR.put W l o o' h hc) (Qa _ _) (λ_=>rfl)
  (λk W=>(EnvK 3 135 165 158 30 W w.heap.size gX gO gB go n (some ⟨go,0,none⟩) cap L2/\∃ L:List RF,L.length=k/\L.map RF.q=(Zj0 X n m).drop (n-k)/\OutK 25 32 W W0.heap.size gO (n-k) L)/\Below W0.heap.size W0 W)
  (OwnFrom.and (λk W W' row hs hg hr=>by
   obtain⟨h1,L,h2,h3,h4⟩:=hs;exact⟨h1.own hg (λr e=>(hr r e).2),L,h2,h3,h4.own hg (λr e=>(hr r e).2)⟩) (ownFrom_below (Qb _) I.out.size))
  ⟨⟨g8.out,[],rfl,by rw[Qe,Nat.sub_zero,List.drop_eq_nil_of_le];unfold Zj0;rw[Qd,Qh];exact Qb _,o1.out⟩,I.out⟩
  ?a1 ?assign ?body ?done
 case assign =>
  intro l k W K hk hK;dsimp only[Zls]
  gi_wp2
  exact hK
 case body =>
  intro l k W hk hI;obtain⟨⟨hE,L,t5,g7,hO⟩,g4⟩:=hI;obtain⟨i,n8⟩:=Gz (n-1-k);have q6:i<n:=Gk;obtain⟨x,hx⟩:=Zc8 (L:=L2) (i:=i) Gk;have n2:rsAt (L2.map RZ.rs) i=x.rs:=by unfold rsAt;rw[Qf,hx];rfl
  have j2:x.q.length=m:=by
   have h1:=(Zi6 n 0 0 (Zab Q) false 1 i4.out).1;rw[e5.out]at h1;have h2:E'[i]?=some x.q:=by rw[<- g0,Qf,hx];rfl
   have h3:=h1 i (List.getElem?_eq_some_iff.1 h2).1;rw[h2]at h3;exact h3
  (try dsimp only);rw[n8,n2];dsimp only[RS.val,RZ.rs];rw[j2];rw[show n-k=i+1 by omega]at hO g7
  have z6:n-(k+1)=i:=Gk;have v7:Hid (∀ r ∈ L,r.g<W.heap.size):=Zb (λr hr=>(hO.2.1 r hr).1.1.lt);have q2:W0.heap.size<=W.heap.size:=g4.size
  have j7:Hid (BunK 3 135 165 158 30 25 32 w.heap.size gX gO gB go n (some ⟨go,0,none⟩) cap L2 W i Zbl [] L W):=Zb ⟨hE,by
      have h1:=hO.1;rw[List.replicate_succ',List.append_assoc]at h1;exact h1,OwnF.nil _ _ _,λr hr=>(hO.2.1 r hr).1.1,QF _ _⟩
  obtain⟨d1,d2,d3,d4,d5⟩:=hX.out;replace d1:=Zb d1;replace d2:=Zb d2;replace d3:=Zb d3;replace d4:=Zb d4;replace d5:=Zb d5
  have e8:Hid (∀ j,x.q[j]?.getD 0=Zag E' i j):=Zb (λj=>by
   rw[<- g0];unfold Zag;rw[Qf,hx];rfl)
  have nW:=hE.1.cell 0;simp at nW;replace hO:=Zb hO;replace hE:=Zb hE;replace g7:=Zb g7;replace g4:=Zb g4;replace n8:=Zb n8;replace n2:=Zb n2
  gi_wp2_with fail
  clear nW
  gi_loopw [13] (λkv wr=>∃ (t:Nat) (cur:RS),kv=.int .i64 ((n:Int)+(t:Int))/\t<=m-n/\BunK 3 135 165 158 30 25 32 w.heap.size gX gO gB go n (some ⟨go,0,none⟩) cap L2 W i cur ((Qj t).map λc=>X i (n+c)) L wr) (λkv _=>(m-intOf kv).toNat)
  case atStart=>exact⟨0,Zbl,by go_num,Nat.zero_le _,j7.out⟩
  case round =>
   clear j7;obtain⟨t,cur,rfl,C8,a9⟩:=hrel;by_cases hlt:t<m-n
   ·skip
    have t2:decide ((n:Int)+(t:Int)<(m:Int))=true:=Gv Gk;have bnt:(0:Int)<=(n:Int)+(t:Int):=Gk;have bnm:(n:Int)+(t:Int)<(m:Int):=Gk;obtain⟨zn,zA,zk,zc,c0,c1,hz⟩:=(a9.1.2.2.2.row hx).1.at_ (i:=n+t) (by rw[j2];omega);rw[e8.out]at hz;have nc:=a9.1.1.cell 0;simp at nc;have e1:((n:Int)+(t:Int)).toNat=n+t:=Gk;replace a9:=Zb a9
    gi_wp2_with fail
    have E:Hid (∀ wx,Below wr.heap.size wr wx->wx.cell? ⟨x.g,(n+t)*2,none⟩=some (.bool zn)/\wx.cell? ⟨x.g,(n+t)*2+1,none⟩=some (.slice zA zk zc)):=Zb (λwx u=>⟨Za u c0,Za u c1⟩);have J:Below wr.heap.size wr wr.drew:=Zg (Qa _ _) 1;refine Ztq [] hmx Gj E J (λhxs=>?_);refine Zin 4 [0,1,2,3] rfl Gj (E.out _ J) ?_
    iterate 4 (refine tkA ?_;try simp only[Qc,Zf6,Zfl,Zfx,Gr,Gq,Gp])
    refine tk0 ?_;refine Zbk [(4,56),(5,57),(6,51),(7,58),(9,14)] (λi=>match i with|6=>[8]|_=>[]) [(4,56),(5,57),(6,51),(8,59),(7,58),(9,14)] (Zbc wr.heap.size ((Zag E' i (n+t)):Rat) 4 5 6 7 8 9 8) 2 Gj (λ_ _ _ _ _ hb h=>Zgq hb h) (λwx h=>E.out _ (Gs J h)) ?hop1 ?hfin1
    case hop1 =>
     intro p hp;simp only[Ql,Qk,or_false]at hp;simp only[Qg,Qe,Zaj,Qc,Zf6,Zfl,Zfx];rcases hp with rfl|rfl|rfl|rfl|rfl;exact Eb
     ·intro ν wx hb hP
      have u:=Gs J hb;have h0:=hP (4,56) Gh Gj;simp only[Zbc]at h0;obtain⟨D0,e0,f0,hν,hN⟩:=h0;rw[hν];refine Zj (i:=5) rfl (λK hK=>?_);go_simp;refine(Zgy zn zA D0 zk zc e0 f0 (Zag E' i (n+t)) 1 wx (hz.below u) hN Gi).mono ?_;exact EJ
     ·intro ν wx hb hP
      have h0:=hP (5,57) Gh Gj;exact Ei
     ·intro ν wx hb hP
      have h0:=hP (6,51) Gh Gj;exact EW
     exact EO
    case hfin1 =>
     intro ν wx hb hP;have h9:=hP (4,56) Gh;have h0:=hP (5,57) Gh;have h1:=hP (6,51) Gh;have h2:=hP (7,58) Gh;have h3:=hP (8,59) Gh;have h4:=hP (9,14) Gh;simp only[Zbc,Zar]at h9 h0 h1 h2 h4;obtain⟨y0,y1,y2,h9,-⟩:=h9;obtain⟨a0,a1,a2,a3,a4,a5,a6,a7,h0,-⟩:=h0;obtain⟨n5,p1,o8,p4,m0,n4,o4,p3,h1,-⟩:=h1;obtain⟨ssn,m8,ssk,ssc,ssm,o6,ssj,ssd,h2,ssf⟩:=h2;obtain⟨gss,h4,kv,qv⟩:=h4;simp only[Qg,Qe,Zaj,Qc,Zf6,Zfl,Zfx];rw[h9,h0,h1,h2,(show ν 59=Value.int .i64 0 by simpa [Zbc,Zar]using h3),h4];clear h9 h0 h1 h2 h3 h4 hP ν;have u:=Gs J hb;have C:=qv.four;have b0:wr.heap.size<=gss:=kv;refine(Zm ssn m8 ssk ssc ssm o6 ssj ssd u b0 qv).elim (λZss hq=>?_);have c0:=C.1;have f4:=C.2.1;have e7:=C.2.2.1;have c3:=C.2.2.2.1;have f0:=C.2.2.2.2.1;have f1:=C.2.2.2.2.2.1;have f2:=C.2.2.2.2.2.2.1;have f3:=C.2.2.2.2.2.2.2;have hZ:=hq.1;refine wpAnyL_o 10 λK hK=>?_;go_simp;(try rw[hZ]);refine hK.out _ _ (λ_=>E.out _ hq.2.1) ?_;clear hK K
     try simp only[Qc,Zf6,Zfl,Zfx]
     refine Zfm 1 [11] rfl Gj (E.out _ hq.2.1) ?_
     (refine tkA ?_;try simp only[Qc,Zf6,Zfl,Zfx,Gr,Gq,Gp])
     refine tk0 ?_;refine wpAnyL_fin ?_;have o9:=hq.2.1;have ssb:=Zb hq.2.2.1;have i1:Hid (wr.heap.size<=gss):=Zb b0;replace ssf:=Zb (Fr.keep ssf hq.2.2.2.1);clear hq hZ c0 f4 e7 c3 f0 f1 f2 f3 C qv kv b0 u hb J E hxs;have c9:=a9.out.below o9;have f9:Fr Zss ssn m8 ssk ssc ssm o6 ssj ssd (upS (λi j=>(Zag E' i j:Rat)) X i (n+t) (i+1)):=by rw[Zwj _ _ _ _ _ (Qb _)];exact ssf.out
     have j8:Hid (∀ r ∈ L,r.g≠gss):=Zb (λr hr e=>by
      have a1:=v7.out r hr;have a2:=a9.out.2.2.2.2.size;have a3:=i1.out;omega)
     have h5:Hid (cur.val.ownBlock≠some gss):=Zb (λe=>by
      obtain⟨cs,a1,-,-⟩:=a9.out.2.2.1.ownBlk _ e;have a2:=a1.lt;have a3:=i1.out;omega)
     have l0:Hid (W.heap.size<=gss):=Zb (Qv a9.out.2.2.2.2.size i1.out);have B7:Hid (∀ k,k=gss->∃ t cs,Blk Zss k t cs/\NoLimb cs):=Zb (λk hk=>⟨_,_,hk▸ssb.out,Zan _ _ _ _ _ _ _ _⟩);have A4:Hid (∀ W',Kept (λk=>k=gss) Zss W'->BunK 3 135 165 158 30 25 32 w.heap.size gX gO gB go n (some ⟨go,0,none⟩) cap L2 W i cur ((Qj t).map λc=>X i (n+c)) L W'):=Zb (λW' hk=>c9.turn l6.out g2 ssb.out (Zan _ _ _ _ _ _ _ _) j8.out h5.out l0.out hk);replace f9:=Zb f9;replace c9:=Zb c9;clear ssf c0 c1 nc hz a9 c9
     gi_wp2_with fail
     gi_loopw [16] (λjv wx=>∃ (j:Nat) (sn:Bool) (sA:Option Addr) (sk sc:Nat) (sm:Bool) (sB:Option Addr) (sj sd:Nat),jv=.int .i64 j/\i+1<=j/\j<=n/\Blk wx gss 32 #[.bool sn,.slice sA sk sc,.bool sm,.slice sB sj sd]/\Fr wx sn sA sk sc sm sB sj sd (upS (λi j=>(Zag E' i j:Rat)) X i (n+t) j)/\Kept (λk=>k=gss) Zss wx) (λjv _=>(n-intOf jv).toNat)
     case atStart=>exact⟨i+1,ssn,m8,ssk,ssc,ssm,o6,ssj,ssd,by go_num,Qb _,by omega,ssb.out,f9.out,QF _ _⟩
     case round =>
      clear f9 ssb;obtain⟨j,sn,sA,sk,sc,sm,sB,sj,sd,rfl,C0,C3,qs,d9,e2⟩:=hrel;have I:=A4.out _ e2;by_cases hjn':j<n
      ·skip
       have t3:decide ((j:Int)<(n:Int))=true:=Gv Gk;have C7:(0:Int)<=(j:Int):=Gk;have bjn:(j:Int)<(n:Int):=Gk;have bjm:(j:Int)<(m:Int):=Gk;have ej:((j:Nat):Int).toNat=j:=Gk;obtain⟨zn,zA,zk,zc,c0,c1,hz⟩:=(I.1.2.2.2.row hx).1.at_ (i:=j) (by rw[j2];omega);rw[e8.out]at hz;have nc:=I.1.1.cell 0;simp at nc;replace I:=Zb I;replace qs:=Zb qs;replace d9:=Zb d9;replace e2:=Zb e2
       gi_wp2_with fail
       have c4:Hid (∀ wx,Below wr.heap.size wr wx->wx.cell? ⟨x.g,(j)*2,none⟩=some (.bool zn)/\wx.cell? ⟨x.g,(j)*2+1,none⟩=some (.slice zA zk zc)):=Zb (λwx u=>⟨Za u c0,Za u c1⟩);have O:Below wr.heap.size wr wr.drew:=Zg (Qa _ _) 1;refine Ztq [] hmx Gj c4 O (λhxs=>?_);refine Zin 4 [0,1,2,3] rfl Gj (c4.out _ O) ?_
       iterate 4 (refine tkA ?_;try simp only[Qc,Zf6,Zfl,Zfx,Gr,Gq,Gp])
       refine tk0 ?_;refine Zbk [(4,72),(5,73),(6,67),(7,74),(9,17)] (λi=>match i with|6=>[8]|_=>[]) [(4,72),(5,73),(6,67),(8,75),(7,74),(9,17)] (Zbc wr.heap.size ((Zag E' i j):Rat) 4 5 6 7 8 9 8) 2 Gj (λ_ _ _ _ _ hb h=>Zgq hb h) (λwx h=>c4.out _ (Gs O h)) ?hop2 ?hfin2
       case hop2 =>
        intro p hp;simp only[Ql,Qk,or_false]at hp;simp only[Qg,Qe,Zaj,Qc,Zf6,Zfl,Zfx];rcases hp with rfl|rfl|rfl|rfl|rfl;exact Eb
        ·intro ν wx hb hP
         have u:=Gs O hb;have h0:=hP (4,72) Gh Gj;simp only[Zbc]at h0;obtain⟨D0,e0,f0,hν,hN⟩:=h0;rw[hν];refine Zj (i:=5) rfl (λK hK=>?_);go_simp;refine(Zgy zn zA D0 zk zc e0 f0 (Zag E' i j) 1 wx (hz.below u) hN Gi).mono ?_;exact EJ
        ·intro ν wx hb hP
         have h0:=hP (5,73) Gh Gj;exact Ei
        ·intro ν wx hb hP
         have h0:=hP (6,67) Gh Gj;exact EW
        exact EO
       case hfin2 =>
        intro ν wx hb hP;have h9:=hP (4,72) Gh;have h0:=hP (5,73) Gh;have h1:=hP (6,67) Gh;have h2:=hP (7,74) Gh;have h3:=hP (8,75) Gh;have h4:=hP (9,17) Gh;simp only[Zbc,Zar]at h9 h0 h1 h2 h4;obtain⟨y0,y1,y2,h9,-⟩:=h9;obtain⟨a0,a1,a2,a3,a4,a5,a6,a7,h0,-⟩:=h0;obtain⟨n5,p1,o8,p4,m0,n4,o4,p3,h1,-⟩:=h1;obtain⟨ccn,l7,cck,ccc,ccm,m7,ccj,ccd,h2,ccf⟩:=h2;obtain⟨gcc,h4,kv,qv⟩:=h4;simp only[Qg,Qe,Zaj,Qc,Zf6,Zfl,Zfx];rw[h9,h0,h1,h2,(show ν 75=Value.int .i64 0 by simpa [Zbc,Zar]using h3),h4];clear h9 h0 h1 h2 h3 h4 hP ν;have u:=Gs O hb;have C:=qv.four;have b0:wr.heap.size<=gcc:=kv;refine(Zm ccn l7 cck ccc ccm m7 ccj ccd u b0 qv).elim (λZcc hq=>?_);have c0:=C.1;have f4:=C.2.1;have e7:=C.2.2.1;have c3:=C.2.2.2.1;have f0:=C.2.2.2.2.1;have f1:=C.2.2.2.2.2.1;have f2:=C.2.2.2.2.2.2.1;have f3:=C.2.2.2.2.2.2.2;have hZ:=hq.1;refine wpAnyL_o 10 λK hK=>?_;go_simp;(try rw[hZ]);refine hK.out _ _ (λ_=>c4.out _ hq.2.1) ?_;clear hK K
        try simp only[Qc,Zf6,Zfl,Zfx]
        refine Zfm 1 [11] rfl Gj (c4.out _ hq.2.1) ?_
        (refine tkA ?_;try simp only[Qc,Zf6,Zfl,Zfx,Gr,Gq,Gp])
        refine tk0 ?_;refine wpAnyL_fin ?_;have b2:=hq.2.1;have ccb:=Zb hq.2.2.1;have B8:Hid (wr.heap.size<=gcc):=Zb b0;replace ccf:=Zb (Fr.keep ccf hq.2.2.2.1);clear hq hZ c0 f4 e7 c3 f0 f1 f2 f3 C qv kv b0 u hb O c4 hxs;have a8:=I.out.below b2;have j1:=e2.out.below b2;have b5:=Zc b2 qs.out;have b1:=d9.out.below b2;obtain⟨y,hy⟩:=Zc8 (L:=L) (i:=j-(i+1)) (by have:=congrArg Qy g7.out;rw[Qd,List.length_drop]at this;unfold Zj0 at this;rw[Qd,Qh]at this;omega);obtain⟨p2,w6⟩:=Zu6 hjn' hlt g7.out Gk hy;obtain⟨⟨-,z7,z9⟩,-⟩:=hO.out.2.1 y (Qs hy);rw[p2]at z7;unfold maxLen at z9
        have t6:(Qp i Zbl++cur::L.map RF.rs)[j]?=some y.rs:=by
         rw[Qm (by rw[Qi];omega),Qi,show j-i=j-(i+1)+1 by omega,List.getElem?_cons_succ,Qf,hy];rfl
        have k0:=a8.1.1.cell 0;simp at k0;have k1:=a8.1.2.1.cell 0;simp at k1;have k2:=a8.2.1.cell j;rw[Zea t6]at k2;simp only[RF.rs]at k2;rw[p2]at k2;obtain⟨n3,A3,k3,c3,m3,B3,j3,s8,r0,r1,r2,r3,o7⟩:=(a8.2.2.2.1 y (Qs hy)).at_ (i:=t) (by rw[p2];exact hlt);rw[w6]at o7;obtain⟨u0,u1,u2,u3,-⟩:=ccb.out.four;have j0:=(d3.out i j).sm Gi Gi;have i5:=(d4.out j (n+t)).sm Gi Gi;have x4:Hid (SmN 600 600 ((Zag E' i j:Rat)*X j (n+t))):=Zb ((d3.out i j).mulN (d4.out j (n+t)));have C2:(0:Int)<=(t:Int):=Gk;have btm:(t:Int)<((m-n:Nat):Int):=Gk;have et:(n:Int)+(t:Int)-(n:Int)=(t:Int):=Gk;have C1:((t:Nat):Int).toNat=t:=Gk;have C4:IntKind.i64.wrap (t:Int)=(t:Int):=by rw[IntKind.wrap_i64];omega
        replace a8:=Zb a8;replace j1:=Zb j1;replace b5:=Zb b5;replace b1:=Zb b1;clear c0 c1 nc hz t6 I e2 qs d9
        gi_wp2_with fail
        have c2:Hid (∀ wx,Below Zcc.heap.size Zcc wx->wx.cell? ⟨gcc,0,none⟩=some (.bool ccn)/\wx.cell? ⟨gcc,1,none⟩=some (.slice l7 cck ccc)/\wx.cell? ⟨gcc,2,none⟩=some (.bool ccm)/\wx.cell? ⟨gcc,3,none⟩=some (.slice m7 ccj ccd)/\wx.cell? ⟨gX,0,none⟩=some (.slice (some ⟨gO,0,none⟩) n n)/\wx.cell? ⟨w.heap.size,0,none⟩=some (.int .i64 n)/\wx.cell? ⟨gO,j,none⟩=some (.slice (some ⟨y.g,0,none⟩) (m-n) y.c)/\wx.cell? ⟨y.g,t*4,none⟩=some (.bool n3)/\wx.cell? ⟨y.g,t*4+1,none⟩=some (.slice A3 k3 c3)/\wx.cell? ⟨y.g,t*4+2,none⟩=some (.bool m3)/\wx.cell? ⟨y.g,t*4+3,none⟩=some (.slice B3 j3 s8)):=Zb (λwx u=>⟨Za u u0,Za u u1,Za u u2,Za u u3,Za u k1,Za u k0,Za u k2,Za u r0,Za u r1,Za u r2,Za u r3⟩);have c7:Below Zcc.heap.size Zcc Zcc.drew:=Zg (Qa _ _) 1;refine Ztq [] hmx Gj c2 c7 (λhxs3=>?_);refine Zin 10 [0,1,2,3,4,5,6,7,8,9] rfl Gj (c2.out _ c7) ?_
        iterate 10 (refine tkA ?_;try simp only[Qc,Zf6,Zfl,Zfx,Gr,Gq,Gp])
        refine tk0 ?_;refine Zbk [(10,87),(11,76),(12,88),(14,19)] (λi=>match i with|11=>[13]|_=>[]) [(10,87),(11,76),(13,89),(12,88),(14,19)] (Zar Zcc.heap.size ((Zag E' i j:Rat)*X j (n+t)) 10 11 12 13 14 13) 2 Gj (λ_ _ _ _ _ hb h=>Zgg hb h) (λwx h=>c2.out _ (Gs c7 h)) ?hop3 ?hfin3
        case hop3 =>
         intro p hp;simp only[Ql,Qk,or_false]at hp;simp only[Qg,Qe,Zaj,Qc,Zf6,Zfl,Zfx];rcases hp with rfl|rfl|rfl|rfl
         ·intro ν wx hb hP
          have u:=Gs c7 hb;refine Zj (i:=10) rfl (λK hK=>?_);go_simp;refine(Zit ccn ccm n3 m3 l7 m7 A3 B3 cck ccc ccj ccd k3 c3 j3 s8 _ _ wx (ccf.out.below u) (o7.below u) j0 i5).mono ?_;rintro e w5 ⟨ao,cb,A5,k5,c5,dO,B5,m5,d5,rfl,aw⟩;exact hK.out _ _ ⟨_,rfl,(by simp only[Zar];exact⟨_,_,_,_,_,_,_,_,rfl,aw⟩),ao,trivial⟩
         ·intro ν wx hb hP
          have h0:=hP (10,87) Gh Gj;simp only[Zar]at h0;obtain⟨cb,A5,k5,c5,dO,B5,m5,d5,hν,aw⟩:=h0;rw[hν];refine Zj (i:=11) rfl (λK hK=>?_);go_simp;refine hK.out _ _ ⟨_,rfl,(by simp only[Zar];exact⟨_,_,_,_,_,_,_,_,rfl,aw⟩),Qa _ _,?_⟩;exact⟨_,.int .i64 0,rfl,Or.inl ⟨by kernel_rfl,λW2 _=>by go_simp⟩,by simp[Zar],trivial⟩
         ·intro ν wx hb hP
          have h0:=hP (11,76) Gh Gj;simp only[Zar]at h0;obtain⟨cb,A5,k5,c5,dO,B5,m5,d5,hν,aw⟩:=h0;rw[hν];refine Zj (i:=12) rfl (λK hK=>?_);go_simp;exact hK.out _ _ ⟨_,rfl,(by simp only[Zar];exact⟨_,_,_,_,_,_,_,_,rfl,aw⟩),Qa _ _,trivial⟩
         intro ν wx hb hP;refine Zj (i:=14) rfl (λK hK=>?_);go_simp;exact hK.out _ _ ⟨_,rfl,(by simp only[Zar];exact⟨_,rfl,hb.size,QE _ _ _⟩),(Qa _ _).alloc (Qb _) _,trivial⟩
        case hfin3 =>
         intro ν wx hb hP;have h0:=hP (10,87) Gh;have h1:=hP (11,76) Gh;have h2:=hP (12,88) Gh;have h3:=hP (13,89) Gh;have h4:=hP (14,19) Gh;simp only[Zar]at h0 h1 h2 h4;obtain⟨a0,a1,a2,a3,a4,a5,a6,a7,h0,-⟩:=h0;obtain⟨n5,p1,o8,p4,m0,n4,o4,p3,h1,-⟩:=h1;obtain⟨wwn,r4,wwk,wwc,wwm,r6,wwj,wwd,h2,wwf⟩:=h2;obtain⟨gww,h4,kv,qv⟩:=h4;simp only[Qg,Qe,Zaj,Qc,Zf6,Zfl,Zfx];rw[h0,h1,h2,(show ν 89=Value.int .i64 0 by simpa [Zar]using h3),h4];clear h0 h1 h2 h3 h4 hP ν;have u:=Gs c7 hb;have C:=qv.four;have b0:Zcc.heap.size<=gww:=kv;refine(Zm wwn r4 wwk wwc wwm r6 wwj wwd u b0 qv).elim (λZww hq=>?_);have c0:=C.1;have f4:=C.2.1;have e7:=C.2.2.1;have c3:=C.2.2.2.1;have f0:=C.2.2.2.2.1;have f1:=C.2.2.2.2.2.1;have f2:=C.2.2.2.2.2.2.1;have f3:=C.2.2.2.2.2.2.2;have hZ:=hq.1;refine wpAnyL_o 15 λK hK=>?_;go_simp;(try rw[hZ]);refine hK.out _ _ (λ_=>c2.out _ hq.2.1) ?_;clear hK K
         try simp only[Qc,Zf6,Zfl,Zfx]
         refine Zfm 1 [16] rfl Gj (c2.out _ hq.2.1) ?_
         (refine tkA ?_;try simp only[Qc,Zf6,Zfl,Zfx,Gr,Gq,Gp])
         refine tk0 ?_;refine wpAnyL_fin ?_;have b3:=hq.2.1;have wwb:=Zb hq.2.2.1;replace wwf:=Zb (Fr.keep wwf hq.2.2.2.1);clear hq hZ c0 f4 e7 c3 f0 f1 f2 f3 C qv kv u hb c7 c2 hxs3;have q4:=a8.out.below b3;have n1:=j1.out.below b3;have i7:=Zc b3 b5.out;have j9:=b1.out.below b3;have o5:=(d5.out i (n+t) j).sm Gi Gi;have y4:=x4.out.sm Gi Gi;obtain⟨s0,s1,s2,s3,-⟩:=i7.four;obtain⟨v0,v1,v2,v3,-⟩:=wwb.out.four;replace q4:=Zb q4;replace n1:=Zb n1;replace i7:=Zb i7;clear r0 r1 r2 r3 u0 u1 u2 u3 k0 k1 k2 j0 i5 a8 j1 b5 b1 o7 ccf ccb b2 b3
         gi_wp2_with fail
         refine⟨trivial,?_⟩;refine(CallsIn.inRound l (callsIn_wide.2 (Zoj sn sm wwn wwm sA sB r4 r6 sk sc sj sd wwk wwc wwj wwd _ _ Zww j9 wwf.out o5 y4))).mono ?_;rintro e w8 ⟨f6,n6,A6,k6,c6,m6,B6,j6,d6,rfl,f8⟩;rw[<- Zuv (λi j=>(Zag E' i j:Rat)) X (i:=i) (k:=n+t) (t:=j) Gk]at f8;have e6:=Zc f6 i7.out;have p7:=n1.out.below f6;obtain⟨W9,f7,z5,q9,i2,-,s9⟩:=Zm (B:=gss) n6 A6 k6 c6 m6 B6 j6 d6 (Qa gss w8) (Qb _) e6;have o0:=Zb (Fr.keep f8 i2)
         have x7:Hid (Kept (λk=>k=gss) Zss W9):=Zb (by
          rw[<- f7];exact((((p7.set_ (p:=⟨gss,0,none⟩) (.inl rfl) _).set_ (p:=⟨gss,1,none⟩) (.inl rfl) _).set_ (p:=⟨gss,2,none⟩) (.inl rfl) _).set_ (p:=⟨gss,3,none⟩) (.inl rfl) _))
         replace q9:=Zb q9;clear s0 s1 s2 s3 v0 v1 v2 v3 j9 f8 f6 i2 p7;obtain⟨s0,s1,s2,s3,s4,s5,m9,s7⟩:=e6.four
         gi_wp2_with fail
         (try rw[f7]);clear s0 s1 s2 s3 s4 s5 m9 s7 f7 e6
         go_roundw
         case measure=>simp[intOf];omega
         case rel=>exact⟨j+1,n6,A6,k6,c6,m6,B6,j6,d6,by go_num,by omega,by omega,q9.out,o0.out,x7.out⟩
      obtain rfl:j=n:=Gk;have t3:decide ((j:Int)<(j:Int))=false:=Gh;have B9:(0:Int)<=(i:Int):=Gk;have bim:(i:Int)<(m:Int):=Gk;have bij:(i:Int)<(j:Int):=Gk;have ei:((i:Nat):Int).toNat=i:=Gk;obtain⟨zn,zA,zk,zc,c0,c1,hz⟩:=(I.1.2.2.2.row hx).1.at_ (i:=i) (by rw[j2];omega);rw[e8.out]at hz;have nc:=I.1.1.cell 0;simp at nc;replace I:=Zb I;replace qs:=Zb qs;replace d9:=Zb d9;replace e2:=Zb e2
      gi_wp2_with fail
      have b6:Hid (∀ wx,Below wr.heap.size wr wx->wx.cell? ⟨x.g,(i)*2,none⟩=some (.bool zn)/\wx.cell? ⟨x.g,(i)*2+1,none⟩=some (.slice zA zk zc)):=Zb (λwx u=>⟨Za u c0,Za u c1⟩);have c8:Below wr.heap.size wr wr.drew:=Zg (Qa _ _) 1;refine Ztq [] hmx Gj b6 c8 (λhxs=>?_);refine Zin 4 [0,1,2,3] rfl Gj (b6.out _ c8) ?_
      iterate 4 (refine tkA ?_;try simp only[Qc,Zf6,Zfl,Zfx,Gr,Gq,Gp])
      refine tk0 ?_;refine Zbk [(4,101),(5,102),(6,96),(7,103),(9,21)] (λi=>match i with|6=>[8]|_=>[]) [(4,101),(5,102),(6,96),(8,104),(7,103),(9,21)] (Zbc wr.heap.size ((Zag E' i i):Rat) 4 5 6 7 8 9 8) 2 Gj (λ_ _ _ _ _ hb h=>Zgq hb h) (λwx h=>b6.out _ (Gs c8 h)) ?hop4 ?hfin4
      case hop4 =>
       intro p hp;simp only[Ql,Qk,or_false]at hp;simp only[Qg,Qe,Zaj,Qc,Zf6,Zfl,Zfx];rcases hp with rfl|rfl|rfl|rfl|rfl;exact Eb
       ·intro ν wx hb hP
        have u:=Gs c8 hb;have h0:=hP (4,101) Gh Gj;simp only[Zbc]at h0;obtain⟨D0,e0,f0,hν,hN⟩:=h0;rw[hν];refine Zj (i:=5) rfl (λK hK=>?_);go_simp;refine(Zgy zn zA D0 zk zc e0 f0 (Zag E' i i) 1 wx (hz.below u) hN Gi).mono ?_;exact EJ
       ·intro ν wx hb hP
        have h0:=hP (5,102) Gh Gj;exact Ei
       ·intro ν wx hb hP
        have h0:=hP (6,96) Gh Gj;exact EW
       exact EO
      case hfin4 =>
       intro ν wx hb hP;have h9:=hP (4,101) Gh;have h0:=hP (5,102) Gh;have h1:=hP (6,96) Gh;have h2:=hP (7,103) Gh;have h3:=hP (8,104) Gh;have h4:=hP (9,21) Gh;simp only[Zbc,Zar]at h9 h0 h1 h2 h4;obtain⟨y0,y1,y2,h9,-⟩:=h9;obtain⟨a0,a1,a2,a3,a4,a5,a6,a7,h0,-⟩:=h0;obtain⟨n5,p1,o8,p4,m0,n4,o4,p3,h1,-⟩:=h1;obtain⟨ddn,t7,ddk,ddc,ddm,t4,ddj,ddd,h2,ddf⟩:=h2;obtain⟨gdd,h4,kv,qv⟩:=h4;simp only[Qg,Qe,Zaj,Qc,Zf6,Zfl,Zfx];rw[h9,h0,h1,h2,(show ν 104=Value.int .i64 0 by simpa [Zbc,Zar]using h3),h4];clear h9 h0 h1 h2 h3 h4 hP ν;have u:=Gs c8 hb;have C:=qv.four;have b0:wr.heap.size<=gdd:=kv;refine(Zm ddn t7 ddk ddc ddm t4 ddj ddd u b0 qv).elim (λZdd hq=>?_);have c0:=C.1;have f4:=C.2.1;have e7:=C.2.2.1;have c3:=C.2.2.2.1;have f0:=C.2.2.2.2.1;have f1:=C.2.2.2.2.2.1;have f2:=C.2.2.2.2.2.2.1;have f3:=C.2.2.2.2.2.2.2;have hZ:=hq.1;refine wpAnyL_o 10 λK hK=>?_;go_simp;(try rw[hZ]);refine hK.out _ _ (λ_=>b6.out _ hq.2.1) ?_;clear hK K
       try simp only[Qc,Zf6,Zfl,Zfx]
       refine Zfm 1 [11] rfl Gj (b6.out _ hq.2.1) ?_
       (refine tkA ?_;try simp only[Qc,Zf6,Zfl,Zfx,Gr,Gq,Gp])
       refine tk0 ?_;refine wpAnyL_fin ?_;have d7:=hq.2.1;have ddb:=Zb hq.2.2.1;have B4:Hid (wr.heap.size<=gdd):=Zb b0;replace ddf:=Zb (Fr.keep ddf hq.2.2.2.1);clear hq hZ c0 f4 e7 c3 f0 f1 f2 f3 C qv kv b0 u hb c8 b6 hxs;have a8:=I.out.below d7;have b5:=Zc d7 qs.out;have b1:=d9.out.below d7;obtain⟨s0,s1,s2,s3,-⟩:=b5.four;obtain⟨v0,v1,v2,v3,-⟩:=ddb.out.four;have j0:=(d5.out i (j+t) j).sm Gi Gi;have i5:=(d3.out i i).sm Gi Gi;have o5:=d1.out i q6;replace a8:=Zb a8;replace b5:=Zb b5;clear c0 c1 nc hz I e2 qs d9 d7
       gi_wp2_with fail
       refine⟨trivial,?_⟩;refine(CallsIn.inRound l (callsIn_wide.2 (Zpk sn sm ddn ddm sA sB t7 t4 sk sc sj sd ddk ddc ddj ddd _ _ Zdd b1 ddf.out j0 i5 o5))).mono ?_;rintro e w8 ⟨f6,n6,A6,k6,c6,m6,B6,j6,d6,rfl,f8⟩;rw[show upS (λi j=>(Zag E' i j:Rat)) X i (j+t) j/(Zag E' i i:Rat)=X i (j+t) from(d2.out i (j+t) q6 Gk Gk).symm]at f8;have t8:=a8.out.below f6;have e6:=Zc f6 b5.out;obtain⟨W9,f7,z5,q9,i2,-,s9⟩:=Zm (B:=gss) n6 A6 k6 c6 m6 B6 j6 d6 (Qa gss w8) (Qb _) e6;have o0:=Zb (Fr.keep f8 i2)
       have r5:Kept (λk=>k=gss) w8 W9:=by
        rw[<- f7];exact(((((QF (λk=>k=gss) w8).set_ (p:=⟨gss,0,none⟩) (.inl rfl) _).set_ (p:=⟨gss,1,none⟩) (.inl rfl) _).set_ (p:=⟨gss,2,none⟩) (.inl rfl) _).set_ (p:=⟨gss,3,none⟩) (.inl rfl) _)
       have b9:=t8.turn l6.out g2 e6 (Zan _ _ _ _ _ _ _ _) j8.out h5.out l0.out r5;replace q9:=Zb q9;clear s0 s1 s2 s3 v0 v1 v2 v3 b1 f8 f6 i2 a8 t8 r5 ddf ddb b5;obtain⟨s0,s1,s2,s3,s4,s5,m9,s7⟩:=e6.four;have kO:=b9.2.1.cell i;rw[Zea (e:=cur) (by rw[Qm (by rw[Qi];exact Qb _),Qi,Nat.sub_self];rfl)]at kO;have kX:=b9.1.2.1.cell 0;simp at kX;have kz:=b9.2.1.frozen i;replace b9:=Zb b9
       gi_wp2_with fail
       (try rw[f7]);clear s0 s1 s2 s3 s4 s5 m9 s7 f7 e6;obtain⟨x0,x1,x2,x3,-⟩:=q9.out.four;obtain⟨X0,n7⟩:=Gz W9.drew
       have J:Below W9.heap.size W9 X0:=by rw[<- n7];exact Zg (Qa _ _) 1
       have E:Hid (∀ wx,Below W9.heap.size W9 wx->wx.cell? ⟨gX,0,none⟩=some (.slice (some ⟨gO,0,none⟩) j j)/\wx.cell? ⟨gO,i,none⟩=some (.slice cur.A cur.n cur.c)/\wx.cell? ⟨gss,0,none⟩=some (.bool n6)/\wx.cell? ⟨gss,1,none⟩=some (.slice A6 k6 c6)/\wx.cell? ⟨gss,2,none⟩=some (.bool m6)/\wx.cell? ⟨gss,3,none⟩=some (.slice B6 j6 d6)):=Zb (λwx u=>⟨Za u kX,Za u kO,Za u x0,Za u x1,Za u x2,Za u x3⟩);refine Ztq [10] hmx Gj E (by rw[n7];exact J) (λhxs=>?_);rw[n7];refine Zin 7 [0,1,2,3,4,5,6] rfl Gj (E.out _ J) ?_
       iterate 7 (refine tkA ?_;try simp only[Qc,Zf6,Zfl,Zfx,Gr,Gq,Gp])
       refine tk0 ?_;obtain⟨Y1,i6⟩:=Gz (X0.alloc (.cells #[.bool n6,.slice A6 k6 c6,.bool m6,.slice B6 j6 d6] 32));obtain⟨ga,m2⟩:=Gz X0.heap.size;have v6:Below X0.heap.size X0 Y1:=by rw[<- i6];exact(Qa _ _).alloc (Qb _) _
       have p9:Blk Y1 ga 32 #[.bool n6,.slice A6 k6 c6,.bool m6,.slice B6 j6 d6]:=by rw[<- i6,<- m2];exact QE _ _ _
       have O:Below W9.heap.size W9 Y1:=Gs J v6;refine wpAnyL_o 7 λK hK=>?_;go_simp;(try rw[i6]);(try rw[m2]);refine hK.out _ _ (λ_=>E.out _ O) ?_;clear hK K i6 m2
       try simp only[Qc,Zf6,Zfl,Zfx]
       have U:=b9.out.below O;have p5:=o0.out.below O;have w7:=U.2.2.2.2.size;refine wpAnyL_o 8 λK hK=>?_;rw[Gx Gc];refine Zgf _ (.tmp 116) (.tmp 118) 25 rfl W.heap.size 32 iF Tryz.underlying25 hi z8 B2 y6 cur.val ((Qj t).map λc=>X i (j+c)) rfl U.2.2.1 _ (some ⟨ga,0,none⟩) 1 1 [⟨n6,A6,k6,c6,m6,B6,j6,d6,X i (j+t)⟩] rfl (Zhz _ p9) rfl (by intro e he;rw[List.mem_singleton]at he;subst he;exact p5) Gg w7 ?_;intro v2 Y2 aJ j5 r9
       obtain⟨nA,nn,nc,rfl⟩:∃ A n c,v2=.slice A n c:=by
        exact IK
       have k8:OwnF 32 Y2 W.heap.size (RS.val ⟨nA,nn,nc⟩) ((Qj (t+1)).map λc=>X i (j+c)):=by
        rw[List.range_succ,List.map_append];exact aJ
       have h8:=U.2.2.1.ownBlk
       have j4:Y2.cell? ⟨gX,0,none⟩=some (.slice (some ⟨gO,0,none⟩) j j)/\Y2.cell? ⟨gO,i,none⟩=some (.slice cur.A cur.n cur.c)/\Y2.cell? ⟨gss,0,none⟩=some (.bool n6)/\Y2.cell? ⟨gss,1,none⟩=some (.slice A6 k6 c6)/\Y2.cell? ⟨gss,2,none⟩=some (.bool m6)/\Y2.cell? ⟨gss,3,none⟩=some (.slice B6 j6 d6):=by
        have f:∀ (g o:Nat) (v:Value),g<W.heap.size \/ g=gO \/ g=gss->Y1.cell? ⟨g,o,none⟩=some v->Y2.cell? ⟨g,o,none⟩=some v:=λg o v hgg hv=>by
         rw[<- hv];refine World.cell?_of_block (j5.block g (Zn hv) (λe=>?_));obtain⟨cs,a1,-,a2⟩:=h8 g e.symm;rcases hgg with h1|h1|h1;omega;subst h1;exact g2 (U.2.1.type a1);subst h1;exact h5.out e.symm
        have t9:gX<W.heap.size:=hE.out.2.1.lt;obtain⟨a0,a1,a2,a3,a4,a5⟩:=E.out _ O;exact⟨f _ _ _ (.inl t9) a0,f _ _ _ (.inr (.inl rfl)) a1,f _ _ _ (.inr (.inr rfl)) a2,f _ _ _ (.inr (.inr rfl)) a3,f _ _ _ (.inr (.inr rfl)) a4,f _ _ _ (.inr (.inr rfl)) a5⟩
       refine hK.out _ _ (λ_=>j4) ?_;clear hK K
       try simp only[Qc,Zf6,Zfl,Zfx]
       have n9:=Zb (U.app l6.out A2.out g2 v7.out (cur':=⟨nA,nn,nc⟩) j5 k8 r9);have x6:=j4.2.1
       have B1:Y2.frozen? ⟨gO,i,none⟩=false:=by
        rw[World.frozen?_of_block (j5.block gO U.2.1.lt (λe=>by
         obtain⟨cs,a1,-,-⟩:=h8 gO e.symm;exact g2 (U.2.1.type a1)))]
        exact U.2.1.frozen i
       refine Zfm 1 [9] rfl Gj j4 ?_
       (refine tkA ?_;try simp only[Qc,Zf6,Zfl,Zfx,Gr,Gq,Gp])
       refine tk0 ?_;clear j4 aJ k8 h8 U p5 p9 v6 O;refine Zr (i:=10) rfl Gj Gj (λK hK=>?_);go_simp;refine hK.out _ _ ?_;clear hK K
       try simp only[Qc,Zf6,Zfl,Zfx]
       refine wpAnyL_fin ?_;clear x6 B1 hxs E J kX kO kz x0 x1 x2 x3 j5 r9
       gi_wp2_with fail
       go_roundw
       case measure=>simp[intOf];omega
       case rel=>exact⟨t+1,⟨nA,nn,nc⟩,by go_num,by omega,n9.out⟩
   obtain rfl:t=m-n:=Gk;have t2:decide ((n:Int)+((m-n:Nat):Int)<(m:Int))=false:=Gu Gk;obtain⟨r,A1,p6⟩:=a9.out Gg hO.out q2;have y3:KeepsOthers W wr:=a9.2.2.2.2.others (λk hk=>⟨_,_,hk▸hO.out.1⟩);have s6:Below W0.heap.size W0 wr:=g4.out.trans (a9.2.2.2.2.to_below (λk hk=>by rw[hk];exact x9) q2);have o2:=a9.1
   gi_wp2_with fail
   (try go_at_K);refine⟨y3,⟨λ_=>by rw[o2.2.2.1.cell];rfl,λ_=>o2.sl l2 i9 p0⟩,⟨o2,r::L,by rw[Qn,t5],?_,?_⟩,s6⟩
   rw[Qg,A1,g7.out,Zs7 hk,show n-k=i+1 by omega,show n-1-k=i by omega];rw[z6];exact p6
 case done =>
  intro D W hD hI hK
  have A7:∀ (W':World),W'=W.putObj D (.deferred none)->(EnvK 3 135 165 158 30 W' w.heap.size gX gO gB go n (some ⟨go,0,none⟩) cap L2/\∃ L:List RF,L.length=n/\L.map RF.q=(Zj0 X n m).drop (n-n)/\OutK 25 32 W' W0.heap.size gO (n-n) L):=λW' e=>by
   obtain⟨⟨h1,L,h2,h3,h4⟩,-⟩:=hI;subst e;have hr:∀ r,some D=some r->∃ o:Obj,W.heap[r]?=some o/\o.isCells=false:=λr e=>by cases e;exact⟨_,hK,rfl⟩
   exact⟨h1.own (grownBy_putObj' W D _) hr,L,h2,h3,h4.own (grownBy_putObj' W D _) hr⟩
  have kX:=hI.1.1.2.1.cell 0;simp at kX;have g4:=hI.2;clear hI;go_wp2_with fail
  have w3:w.heap.size<=V5.heap.size:=by
   have h1:=I.out.size;have h2:=g5.size;omega
  refine⟨by simp,.inl ⟨_,_,rfl,run_takeDeferred hK,?_⟩⟩;obtain⟨C5,L,C6,t0,aJ⟩:=A7 _ rfl;rw[Nat.sub_self]at t0 aJ;refine⟨.tuple #[.slice (some ⟨gO,0,none⟩) n n,.bool true],by simp[results,Tryz.f87,go_sem],gO,L,rfl,(Gs g5 g4).trans (belowK_b (w:=V5) w3 W D _ _ hD hK rfl rfl),by have h2:=g5.size;omega,⟨⟨[],?_⟩,λr hr=>(aJ.2.1 r hr).1,?_⟩,by rw[t0,List.drop_zero],λr hr=>Qv g5.size (aJ.2.1 r hr).2⟩
  ·have h1:=aJ.1
   rw[List.replicate_zero,Qo]at h1;rw[QD];exact h1
  rw[List.nodup_cons];refine⟨λhm=>?_,aJ.2.2⟩;obtain⟨r,hr,e⟩:=List.mem_map.1 hm;obtain⟨es,zs,h1,-,-⟩:=(aJ.2.1 r hr).1.1;rw[e]at h1;exact g2 (aJ.1.type h1)
theorem Zvn(A:Option Addr)(n c m:Nat)(Q:List (List Rat))(w:World)(h:MFL w A n c Q)(hn0:0<n)(hn9:n<=900)(hnm:n<=m)(hm9:m<=900)(hm:∀ i,i<n->(Q[i]?.getD []).length=m)(U:okZ (pw 200) m n 0 0 (Zab Q) 1)(hfin:Zpc Q n m)(a7:(Zaw n 0 0 (Zab Q) false 1).2.1<n) :
    Calls Tryz.prog 87 #[.slice A n c,.int .i64 n] w λe w'=>e=.returned (.tuple #[.slice none 0 0,.bool false])/\Below w.heap.size w w':=by
 have hmx:=Gt;have c0:(158:TypeId)≠30:=Gi;have d5:(25:TypeId)≠32:=Gi;have d7:Hid (NoT 3 135 165 158 30 32):=Zb (by unfold NoT;decide);have d3:Hid (NoT 3 135 165 158 30 25):=Zb (by unfold NoT;decide);obtain⟨iF,hi,d8,e0,d4⟩:=info_parts Zg9;obtain⟨iS,ki,d6,d9,e1⟩:=info_parts Zop;have c2:=Zb h.1;obtain⟨W0,c1,a8,q0,s0⟩:=Zbp w 3 #[.int .i64 n];replace h:=h.below a8;obtain⟨FIN,E⟩:=Gz (Zaw n 0 0 (Zab Q) false 1);rw[E]at a7;obtain⟨E',rk,ng,la⟩:=FIN;replace a7:rk<n:=a7;replace E:=Zb E;replace U:=Zb U;refine(callsIn_wide (n:=9)).1 ?_;refine callsIn_of_wp_marks Tryz.func87 rfl trivial ?_ rfl;simp only[Tryz.ntmps87,Qw,Qn,QC,Nat.reduceAdd,Nat.reduceSub,Qq,Qr,Qx,Qu,Qo,Qz];refine wpIn_wide.2 ?_;go_wp2_with fail;refine(Znk A n c m Q W0 h hn9 hm Gk hm9 hfin.1 hfin.2).mono ?_;rintro e w1 ⟨v,vb,L,rfl,J,hM,hq,hP,a3⟩;obtain⟨vA,vc,rfl,b7,b6,-⟩:=hP.poly_at;rw[Qd,Qh]at b7 hP a3 ⊢;unfold maxLen at b6;have f:=congrArg Qy hq;rw[Qd]at f;unfold Zab at f;rw[Qd,c2.out]at f;obtain⟨go,cap,rfl,b9,c8,eL,b2,eM⟩:=hM.mat c0 (λe=>by rw[e]at f;simp at f;omega);rw[f]at b9 ⊢;obtain⟨g3,b0⟩:=Gz w1.heap.size;obtain⟨V,hV,Y,qv,kW,kB,sV⟩:=Zap 167 #[.slice (some ⟨go,0,none⟩) n cap,.slice vA n vc] (Qa w1.heap.size w1) (Qb _);have b4:=b2.below Y;have O:=(Zc J q0).below Y (Zc J q0).lt;rw[b0]at qv;obtain⟨x0,x1,-,-⟩:=qv.two;have nV:=O.cell 0;simp at nV;replace f:=Zb f;have b3:Hid (w.heap.size<W0.heap.size):=Zb Gk;have I:Hid (Below W0.heap.size W0 V):=Zb (Gs J Y)
 have o:∀ k,(k=go \/ k ∈ L.map RZ.g)->W0.heap.size<=k:=λk hk=>by
  exact IS
 have C:∀ k,(k=go \/ k ∈ L.map RZ.g)->k<g3:=λk hk=>by
  obtain⟨t,cs,hb,-⟩:=b2.boxes k hk;rw[<- b0];exact hb.lt
 replace o:=Zb o;replace C:=Zb C;replace qv:=Zb qv;replace O:=Zb O;clear hM b2 kW kB sV a3 hP h c1 eL eM q0 J Y;go_wp2_with fail;(try rw[b0]);(try rw[hV]);refine(Zhl go n cap L (.slice vA n vc) m n V b4 f.out hn0 hn9 b9 c8 Gk hm9 (by rw[hq];exact U.out)).mono ?_;rw[hq,E.out];rintro e w2 ⟨L2,ln,lA,lk,lc,rfl,c6,d0,-,a1,b8,a0⟩;replace a1:L2.map RZ.q=E':=a1;clear hV x0 x1 nV;have a4:¬ (g3=go \/ g3 ∈ L.map RZ.g):=λh=>by have:=C.out g3 h;omega
 have q3:=a0.blk qv.out a4;have a6:=a0.blk O.out (λh=>by have:=o.out _ h;have:=b3.out;omega);have b1:Below W0.heap.size W0 w2:=I.out.trans (a0.to_below o.out I.out.size);obtain⟨g6,c3⟩:=Gz w2.heap.size;obtain⟨V2,c5,u,c7,kW,kB,sV⟩:=Zap 30 #[.bool ln,.slice lA lk lc] (Qa w2.heap.size w2) (Qb _);have a5:=q3.below u q3.lt;have a2:=a6.below u a6.lt;have b5:=b8.below u;have a9:=Zb (Gs b1 u);obtain⟨y0,y1,-,-⟩:=a5.two;have c4:=a2.cell 0;simp at c4;have t1:decide ((rk:Int)<(n:Int))=true:=Gv Gk;have c9:Hid (Below w.heap.size w V2):=Zb (Gs a8 a9.out);clear b4 a0 b1 c6 q3 a6 kW kB sV o C u a5 a2 b8 c7 a4 O qv I b5 hm hfin U;go_wp2_with fail;(try rw[c3]);(try rw[c5]);go_wp2_with fail;exact⟨.tuple #[.slice none 0 0,.bool false],by simp[results,Tryz.f87,go_sem],rfl,c9.out⟩
