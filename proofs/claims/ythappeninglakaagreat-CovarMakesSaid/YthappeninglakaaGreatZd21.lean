/- Corr of package covar. Package covar: Of. Reference of -/
import Derived.Deep.LoopGhost
import Derived.Test.YthappeninglakaaGreatZd20
set_option maxRecDepth 100000
set_option maxHeartbeats 16000000
set_option linter.unusedSimpArgs false
set_option linter.unusedVariables false
namespace Go.Proofs.YthappeninglakaaGreat
open Go.RowKit
open Nat renaming le_refl→Qa,le_trans→Qn,zero_le→Qq,zero_add→Qt,lt_of_le_of_lt→Qw,lt_of_lt_of_le→Qx
open Act renaming put→Qb
open Below renaming refl→Qc
open List renaming getElem?_eq_none→Qd,getElem?_map→Qe,getElem?_eq_getElem→Qf,getElem?_set→Qg,mem_of_getElem?→Qi,replicate→Qj,getElem?_range→Qk,length_map→Ql,length_append→Qo,map_cons→Qs,map_nil→Qu,getElem_of_mem→Qv,mem_singleton→Qy,take_add_one→Qz,range→QA,length_set→QC,nil_append→QD,map_append→QE,map_congr_left→QG,ext_getElem?→QH
open OnlyNormal renaming normal→Qh
open Option renaming map_some→Qm,getD_some→QB
open Blk renaming new→Qp
open Or renaming inl→Qr
open Kept renaming refl→QF
attribute [local go_sem] Zh
section
variable{rs:List RX}{i k E:Int}
end
theorem Zsn(na:Bool)(A:Option Addr)(n c:Nat)(nb:Bool)(B:Option Addr)(m d:Nat)(w:World):(Instr.field 73 (.agg #[.bool na,.slice A n c,.bool nb,.slice B m d]) 0).run Tryz.prog w=.ok (.agg #[.bool na,.slice A n c,.bool nb,.slice B m d]) w:=by kernel_rfl
theorem MatB.stepN{tS tF:TypeId}{w U:World}{go g:Nat}{L:List RF}(h:MatB tS tF w go L)(hs:Zt1 w U g)(h1:go≠g)(h2:∀ r ∈ L,r.g≠g):MatB tS tF U go L:=by
 obtain⟨⟨zs,k1⟩,k2,k3⟩:=h;refine⟨⟨zs,hs.2.1 _ _ _ h1 k1⟩,λr hr=>⟨?_,(k2 r hr).2⟩,k3⟩;obtain⟨es,fs,q1,q2,q3⟩:=(k2 r hr).1;exact⟨es,fs,hs.2.1 _ _ _ (h2 r hr) q1,λe he=>Fr.keep (q2 e he) hs.1,q3⟩
theorem MatB.lts{tS tF:TypeId}{w:World}{go:Nat}{L:List RF}(h:MatB tS tF w go L):go<w.heap.size/\∀ r ∈ L,r.g<w.heap.size:=by
 obtain⟨⟨zs,k1⟩,k2,k3⟩:=h;refine⟨k1.lt,λr hr=>?_⟩;obtain⟨es,fs,q1,q2,q3⟩:=(k2 r hr).1;exact q1.lt
theorem Zfy{w:World}{g:Nat}{t:TypeId}{x x0:Int}{p:Addr}{v:Value}(hb:Blk w g t #[.int .i64 x0])(h:w.cell? p=some v)(hv:v ≠ .int .i64 x0):(w.setCell ⟨g,0,none⟩ (.int .i64 x)).cell? p=some v:=by
 by_cases e:(⟨g,0,none⟩:Addr)=p
 ·subst e
  have h2:=hb.cell 0;rw[h]at h2;simp at h2;exact absurd h2 hv
 exact(World.cell?_setCell_other _ _ _ _ e).trans h
theorem FL.code{w:World}{g:Nat}{t:TypeId}{x x0:Int}{A:Option Addr}{n c:Nat}{qs:List Rat}(h:FL w A n c qs)(hb:Blk w g t #[.int .i64 x0]):FL (w.setCell ⟨g,0,none⟩ (.int .i64 x)) A n c qs:=by
 obtain⟨W,hW,-,-,f⟩:=Zbr x (Qc 0 w) (Qq _) hb;obtain⟨es,h1,h2,h3,h4,h5,h6⟩:=h;refine⟨es,h1,h2,h3,λe he=>?_,h5,λhn=>?_⟩;rw[hW];exact Fr.keep (h4 e he) f.1
 ·obtain⟨g1,o1,e1,hc⟩:=h6 hn
  refine⟨g1,o1,e1,λk e he=>?_⟩;obtain⟨c1,c2,c3,c4⟩:=hc k e he;exact⟨Zfy hb c1 (by simp),Zfy hb c2 (by simp),Zfy hb c3 (by simp),Zfy hb c4 (by simp)⟩
theorem MFL.code{w:World}{g:Nat}{t:TypeId}{x x0:Int}{A:Option Addr}{n c:Nat}{Q:List (List Rat)}(h:MFL w A n c Q)(hb:Blk w g t #[.int .i64 x0]):MFL (w.setCell ⟨g,0,none⟩ (.int .i64 x)) A n c Q:=by
 obtain⟨h1,h2,h3,h4⟩:=h;refine⟨h1,h2,h3,λhn=>?_⟩;obtain⟨g1,o1,e1,hc⟩:=h4 hn;refine⟨g1,o1,e1,λk q hq=>?_⟩;obtain⟨A',n',c',c1,c2⟩:=hc k q hq;exact⟨A',n',c',Zfy hb c1 (by simp),c2.code hb⟩
def OfX(rs:List RI)(ws:List Int)(X:Nat->Nat->Rat):Prop:=
 ofE rs ws=0->OfP rs ws rs.length (n0I rs) X/\Ze1 (λi j=>(Zae (Zan (n0I rs) 0 0 (Z6 (Z5 (Zbz rs ws rs.length (n0I rs)) (n0I rs) (n0I rs) 0)) false 1).1 i j:Rat)) X (n0I rs) (n0I rs+n0I rs)
theorem sm8_nrm{rs:List RI}{rr ws:List Int}{n m:Nat}(hn:n<=200)(hE:Zc1 rs rr ws=0):∀ r ∈ Zbz rs ws n m,∀ q ∈ r,Sm8 q:=λr hr q hq=>by
 unfold Zbz at hr;obtain⟨i,hi,rfl⟩:=List.mem_map.1 hr;obtain⟨j,hj,rfl⟩:=List.mem_map.1 hq;have hb:=Zmm hn hE i j;have e:Zfd rs ws n i j=((Zbp ws (Zb8 rs i) (Zb8 rs j) n:Int):Rat):=rfl;rw[e]at hb;refine⟨Qw hb.num (Zfm (by decide)),?_⟩;rw[hb.den];exact Qx Zd7 (Zcn (by decide))
theorem Zxl:Sm Zfi:=(SmN.int (i:=3) (n:=1000000000000000000) (by decide +kernel)).sm (by decide) (by decide)
theorem Zwx{rs:List RI}{ws:List Int}{n m:Nat}{X:Nat->Nat->Rat}(hm:m<=12)(h:OfP rs ws n m X){k c:Nat}(hk:k<m)(hc:c<m):Sm (X k (m+c)):=by
 obtain⟨-,D,d1,d2,d3⟩:=h;obtain⟨h1,h2⟩:=(d3 c k hc hk).small d1;exact⟨Qw h1 (Zfm (by omega)),Qw (Qn h2 d2) (Zfm (by omega))⟩
theorem cOf_any(A C:Option Addr)(n c k e0:Nat)(rs:List RI)(ws:List Int)(X:Nat->Nat->Rat)(w:World)(h:MIL w A n c rs)(hw:LimI w C k e0 ws)(hX:OfX rs ws X)(hF:∀ rt,Zf8 rt=Zpl (ofQ X (n0I rs))->Zoq rt) :
    Calls Tryz.prog 10 #[.slice A n c,.slice C k e0] w (OfPost rs ws X w):=by
 have hmx:Tryz.prog.follows .mixedOrders=true:=by kernel_rfl
 have q9:=h.2.1;have n3:=h.2.2.1;unfold maxLen at n3;have r8:=hw.2.1;have q0:=hw.2.2.1;unfold maxLen at q0;obtain⟨W0,k8,c9,q5,s0⟩:=Zax w 26 #[.int .i64 0];obtain⟨b,hb⟩:∃ b,rs.any RI.long6=b:=⟨_,rfl⟩;have hC:=Za (Zs8 A n c rs W0 (h.below c9) b hb);replace h:=Za (h.below c9);replace hw:=Za (hw.below c9);replace hX:=Za hX;replace hF:=Za hF;replace hb:=Za hb;replace q5:=Za q5;replace c9:=Za c9;replace s0:=Za s0
 go_enter_defers Tryz.func10,Tryz.ntmps10
 go_wp2_with fail;(try rw[k8]);clear k8;refine(hC.out).mono ?_;rintro e w1 ⟨rfl,u⟩;replace h:=Za (h.out.below u);replace hw:=Za (hw.out.below u);replace q5:=Za (Zd u q5.out);have b6:=Za (c9.out.trans (u.mono c9.out.size));clear c9;clear u;clear hC;cases b with
 | true =>
  have c5:=Za (Zl0 (ws:=ws) hb.out);go_wp2_with fail;refine(Zbx 4 w1).mono ?_;rintro e w6 ⟨rfl,rfl⟩;go_wp2_with fail;refine leaves_cons (f:=39) (args:=#[.pointer (some ⟨w.heap.size,0,none⟩)]) (by simp) (by simp[go_sem]) ?_;have Y:=(q5.out).cell 0;simp at Y;refine(Zeg ⟨w.heap.size,0,none⟩ 4 0 _ Y ((q5.out).frozen 0)).mono ?_;rintro e u' w'' ⟨rfl,rfl,a3⟩;obtain⟨V,hV,d8,-,-,hk,sV⟩:=Zt 117 #[.int .i64 4] (b6.out) ((b6.out).size);obtain⟨U,hU,d9,q3,-,kq,-⟩:=Zbr 4 d8 (Qa _) (hk _ _ _ (q5.out));rw[hV,hU]at a3;subst a3;have r4:=q3.cell 0;simp at r4;exact⟨.tuple #[.slice none 0 0,.int .i64 4],by simp[results,Tryz.results10,go_sem,r4],OfPost.fall d9 c5.out (by decide)⟩
 | false =>
  go_wp2_with fail;refine(Zcq 4 w1).mono ?_;rintro e w6 ⟨rfl,rfl⟩;obtain⟨E,hE⟩:∃ E,Zc1 rs (Qj (min rs.length 200) 0) ws=E:=⟨_,rfl⟩;have f8:=h.out.1;by_cases hE0:E=0
  case neg =>
   have c5:=Za (Zow hb.out hE hE0);have d0:Hid (Zc1 rs (Qj (min n 200) 0) ws=E):=Za (by rw[<- f8];exact hE);have t1:(E == 0)=false:=by simpa using hE0
   have s1:decide (E=0)=false:=by simpa using hE0
   have q6:(E != 0)=true:=by rw[bne,t1];rfl
   have m6:=Za hE0;replace hE:=Za hE;clear hE0;go_wp2_with fail;refine(Zqc A C n c k e0 rs ws w6 h.out hw.out E d0.out m6.out).mono ?_;rintro e w3 ⟨rfl,u⟩;replace h:=Za (h.out.below u);replace hw:=Za (hw.out.below u);replace q5:=Za (Zd u q5.out);have n4:=Za (b6.out.trans (u.mono b6.out.size));clear b6;clear u;obtain⟨U1,r6,h6,g7,-,-,-⟩:=Zbr E n4.out (Qa _) q5.out;obtain⟨y0,z0⟩:_/\_:=⟨q5.out.cell 0,q5.out.frozen 0⟩;have x0:=g7.cell 0;simp at x0 y0;go_wp2_with fail;refine(Zbx E U1).mono ?_;rintro e w7 ⟨rfl,rfl⟩;go_wp2_with fail;refine leaves_cons (f:=39) (args:=#[.pointer (some ⟨w.heap.size,0,none⟩)]) (by simp) (by simp[go_sem]) ?_;have Y:=(g7).cell 0;simp at Y;refine(Zeg ⟨w.heap.size,0,none⟩ E E _ Y ((g7).frozen 0)).mono ?_;rintro e u' w'' ⟨rfl,rfl,a3⟩;obtain⟨V,hV,d8,-,-,hk,sV⟩:=Zt 117 #[.int .i64 E] (h6) ((h6).size);obtain⟨U,hU,d9,q3,-,kq,-⟩:=Zbr E d8 (Qa _) (hk _ _ _ (g7));rw[hV,hU]at a3;subst a3;have r4:=q3.cell 0;simp at r4;exact⟨.tuple #[.slice none 0 0,.int .i64 E],by simp[results,Tryz.results10,go_sem,r4],OfPost.fall d9 c5.out m6.out⟩
  subst hE0;obtain⟨p1,p2,p3,p4,p5,p6,p7⟩:=Zo1 h.out hE;obtain⟨m,hm⟩:∃ m,n0I rs=m:=⟨_,rfl⟩;have n0:k=n:=by rw[<- hw.out.1,p6]
  subst n0;have d0:Zc1 rs (Qj k 0) ws=0:=by rw[f8,Nat.min_eq_left p2]at hE;exact hE
  have hN:=Za (λW9 (h9:MIL W9 A k c rs) (k9:LimI W9 C k e0 ws)=>Zta A C k c e0 m rs ws W9 h9 k9 d0 hm);rw[hm]at p3 p4;have i2:=Za (Zoi (rs:=rs) (rr:=Qj k 0) (ws:=ws) (n:=k) (m:=m) p2 p4 d0);have l3:=Za (sm8_nrm (rs:=rs) (ws:=ws) (rr:=Qj k 0) (n:=k) (m:=m) p2 d0);have e4:=Za (And.intro (λhd:Zao m (Zfd rs ws k)=0=>Zo4 hb.out hE (by rw[hm,f8];exact hd)) (λhd:Zao m (Zfd rs ws k)≠0=>Zx7 hb.out hE (by rw[hm,f8];exact hd)))
  have k1:Hid (Zao m (Zfd rs ws k)≠0->OfP rs ws k m X/\Ze1 (λi j=>(Zae (Zan m 0 0 (Z6 (Z5 (Zbz rs ws k m) m m 0)) false 1).1 i j:Rat)) X m (m+m)):=Za (λhd=>by
   have h9:=hX.out;unfold OfX at h9;rw[hm,f8]at h9;exact h9 (e4.out.2 hd))
  have e3:m<=12:=p4;have l2:0<m:=p3;replace d0:=Za d0;replace hE:=Za hE;replace hm:=Za hm;clear p1 p2 p3 p4 p5 p6 p7 hX;go_wp2_with fail;refine(hN.out w6 h.out hw.out).mono ?_;rintro e w5 ⟨gn,rfl,u,g8⟩;replace h:=Za (h.out.below u);replace hw:=Za (hw.out.below u);replace q5:=Za (Zd u q5.out);have m5:=Za (b6.out.trans (u.mono b6.out.size));clear b6;clear u;clear h;clear hw;clear hN;replace g8:=Za g8;obtain⟨U7,i7,b5,c8,j7⟩:=Zbr 0 m5.out (Qa _) q5.out;have y0:=q5.out.cell 0;have z0:=q5.out.frozen 0;simp at y0;have x0:=c8.cell 0;simp at x0;have j4:=g8.out.code (x:=0) q5.out;rw[i7]at j4;obtain⟨j0,a0,a6,m1⟩:=j4.mxl l3.out
  have e1:=Zxc a0 l2 e3 l2 e3 (λr hr=>by
   obtain⟨i9,p9,n6⟩:=Qv hr;have h9:=m1 i9 r (by rw[Qf p9,n6]);refine⟨?_,h9.2⟩;rw[h9.1];exact Zfe (by have:=a0.1;omega))
  have l6:Hid (sqE j0=0):=Za (by unfold sqE;rw[e1.1,e1.2,a0.1];simp);replace a0:=Za a0;replace a6:=Za a6;replace b5:=Za b5;replace c8:=Za c8;clear j4 g8 m1 e1 j7;go_wp2_with fail;(try rw[i7]);clear i7 q5 m5 y0 z0;have q5:=c8;clear c8;refine(Zcq 0 U7).mono ?_;rintro e w6 ⟨rfl,rfl⟩;clear x0;obtain⟨o1,o2,o3,o4,o5,o6,o7⟩:=i2.out;have l9:(Zan m 0 0 (Z6 (Z5 (Zbz rs ws k m) m m 0)) false 1).2.1<=m:=by rw[o4];exact o5
  have e7:Hid ((Zan m 0 0 (Z6 (Z5 (Zbz rs ws k m) m m 0)) false 1).2.1<m->Zao m (Zfd rs ws k)=0):=Za (λh9=>o6 (by rw[<- o4];exact h9));have b3:Hid ((Zan m 0 0 (Z6 (Z5 (Zbz rs ws k m) m m 0)) false 1).2.1=m->Zao m (Zfd rs ws k)≠0):=Za (λh9=>(o7 (by rw[<- o4];exact h9)).1);have i5:=Za (λW9 (h9:MXL W9 (some ⟨gn,0,none⟩) m m j0)=>Zni (some ⟨gn,0,none⟩) m m j0 W9 h9 l6.out e3 (by rw[a6.out];exact o1) (by rw[a6.out];exact o3) (by rw[a6.out];exact l9) X (λh8=>by rw[a6.out]at h8 ⊢;exact(k1.out (b3.out h8)).2));clear o1 o2 o3 o4 o5 o6 o7 l9 i2 l3 l6;go_wp2_with fail;refine(i5.out w6 a0.out).mono ?_;rintro e o0 hc;clear i5
  have u:Below w6.heap.size w6 o0:=by
   rcases hc with ⟨-,-,h9⟩|⟨-,gO,L,-,h9,-⟩;exact h9;exact h9
  have j6:Hid (w.heap.size<w6.heap.size):=Za q5.out.lt;clear a0;replace q5:=Za (Zd u q5.out);have g4:=Za (b5.out.trans (u.mono b5.out.size));clear b5;clear u;rcases hc with ⟨k3,rfl,-⟩|⟨h1,gO,L,rfl,-,m0,f0,m7,l4⟩
  case inl =>
   rw[a6.out]at k3;have c5:=Za (e4.out.1 (e7.out k3));clear k3 a6;obtain⟨o8,m4,a9,a8,n5⟩:=Zbr 18 g4.out (Qa _) q5.out;have y0:=q5.out.cell 0;have z0:=q5.out.frozen 0;simp at y0;have x0:=a8.cell 0;simp at x0;replace a9:=Za a9;replace a8:=Za a8;go_wp2_with fail;(try rw[m4]);refine(Zbx 22 o8).mono ?_;rintro e w7 ⟨rfl,rfl⟩;go_wp2_with fail;refine leaves_cons (f:=39) (args:=#[.pointer (some ⟨w.heap.size,0,none⟩)]) (by simp) (by simp[go_sem]) ?_;have Y:=(a8.out).cell 0;simp at Y;refine(Zeg ⟨w.heap.size,0,none⟩ 22 18 _ Y ((a8.out).frozen 0)).mono ?_;rintro e u' w'' ⟨rfl,rfl,a3⟩;obtain⟨V,hV,d8,-,-,hk,sV⟩:=Zt 117 #[.int .i64 22] (a9.out) ((a9.out).size);obtain⟨U,hU,d9,q3,-,kq,-⟩:=Zbr 22 d8 (Qa _) (hk _ _ _ (a8.out));rw[hV,hU]at a3;subst a3;have r4:=q3.cell 0;simp at r4;exact⟨.tuple #[.slice none 0 0,.int .i64 22],by simp[results,Tryz.results10,go_sem,r4],OfPost.fall d9 c5.out (by decide)⟩
  rw[a6.out]at h1;have c5:=Za (e4.out.2 (b3.out h1));have n1:=Za (k1.out (b3.out h1)).1;clear h1 a6 e7 b3 k1 e4;have i8:Hid (w.heap.size<gO/\∀ r ∈ L,w.heap.size<r.g):=Za ⟨Qx j6.out m7,λr hr=>Qx j6.out (l4 r hr)⟩;have k4:Hid (L.length=m):=Za (by have h9:=congrArg List.length f0;rw[Ql]at h9;rw[h9];unfold Zdz;simp);obtain⟨m9,i3,T,c7,g6⟩:=Zbr 0 g4.out (Qa _) q5.out;have y0:=q5.out.cell 0;have z0:=q5.out.frozen 0;simp at y0;have x0:=c7.cell 0;simp at x0
  have o:=Za (m0.stepN g6 (by have:=i8.out.1;omega) (λr hr=>by have:=i8.out.2 r hr;omega));replace T:=Za T;replace c7:=Za c7;clear g6 m0 m7 l4 j6;go_wp2_with fail;(try rw[i3]);clear i3 q5 g4 y0 z0;have q5:=c7;clear c7;refine(Zcq 22 m9).mono ?_;rintro e w6 ⟨rfl,rfl⟩;clear x0;go_wp2_with fail;refine(cof_ok 1000000000000000000 w6 (by decide) (by decide)).mono ?_;rintro e k5 ⟨h4,sn,sA,sk,sc,sm,sB,sj,sd,rfl,sf⟩;replace q5:=Za (Zd h4 q5.out);replace o:=Za (o.out.below h4);have g1:=Za (T.out.trans (h4.mono T.out.size));clear T;clear h4;replace sf:=Za sf;have i4:=Za o.out.lts;obtain⟨e8,c6⟩:∃ g,k5.heap.size=g:=⟨_,rfl⟩;obtain⟨p8,i6,e5,b7⟩:=Zoj (w:=k5) 73 #[.bool sn,.slice sA sk sc,.bool sm,.slice sB sj sd];rw[c6]at e5;replace q5:=Za (Zd b7 q5.out);replace o:=Za (o.out.below b7);replace sf:=Za (sf.out.below b7);have h7:=Za (g1.out.trans (b7.mono g1.out.size));clear g1;clear b7;replace e5:=Za e5;have o9:Hid (∀ r ∈ L,r.g<e8):=Za (λr hr=>by have h9:=i4.out.2 r hr;have h8:=c6;omega);go_wp2_with fail;(try rw[c6]);(try rw[i6]);clear i6;replace c6:=Za c6;replace sf:Hid (Fr p8 sn sA sk sc sm sB sj sd Zfi):=Za sf.out
  have j9:Hid (∀ (j:Nat) (r:RF),L[j]?=some r->r.q.length=m):=Za (λj r hr=>by
   have h9:(L.map RF.q)[j]?=some r.q:=by rw[Qe,hr];rfl
   rw[f0]at h9;unfold Zdz at h9;rw[Qe]at h9;obtain⟨x9,-,e9⟩:=Option.map_eq_some_iff.1 h9;rw[<- e9];simp)
  have d4:Hid (∀ j c,j<m->c<m->Zl (L.map RF.q) j c=X j (m+c)):=Za (λj c hj hc=>by
   rw[f0];unfold Zdz Zl;rw[Qe,Qk hj,Qm,QB,Qe,Qk (by omega)];rfl)
  replace f0:=Za f0;clear i4
  go_loopg [38] m (λt iv wr=>∃ (i:Nat) (L2:List RF),i+t=m/\iv=.int .i64 i/\Hid (MatB 35 41 wr gO L2)/\Hid (ScT L L2 m i 0 Zfi)/\Hid (Blk wr e8 73 #[.bool sn,.slice sA sk sc,.bool sm,.slice sB sj sd])/\Hid (Fr wr sn sA sk sc sm sB sj sd Zfi)/\Hid (Blk wr w.heap.size 26 #[.int .i64 0])/\Hid (Below w.heap.size w wr))
  case atStart=>exact⟨0,L,by omega,rfl,o,Za (ScT.start k4.out j9.out),e5,sf,q5,h7⟩
  case round =>
   clear o e5 sf q5 h7;obtain⟨wi,rfl⟩:∃ x:World,x=wr:=⟨_,rfl⟩;obtain⟨i,L2,r7,rfl,o,I,qs,sf,q5,a4⟩:=hrel;cases gk with
   | zero =>
    obtain rfl:i=m:=by omega
    have t1:decide ((i:Int)<(i:Int))=false:=by simp
    have n9:Hid (L2.map RF.q=ofQ X i):=Za (by
     rw[I.out.done];unfold ofQ;refine QG λj hj=>QG λc hc=>?_;rw[d4.out j c (List.mem_range.1 hj) (List.mem_range.1 hc)])
    have d5:=o.out.mfl I.out.1 (Qa i) (by unfold maxLen;omega);rw[n9.out]at d5;obtain⟨rt,a0,-,f9⟩:=d5.mxs;have k6:=hF.out rt (by rw[hm.out];exact f9);replace d5:=Za d5;replace a0:=Za a0;have l8:=Za (Zvm (some ⟨gO,0,none⟩) i i rt wi a0.out k6);clear k6 hF o qs sf;go_wp2_with fail;refine l8.out.mono ?_;rintro e w9 ⟨u,j2⟩;replace d5:=Za (d5.out.below u);replace q5:=Za (Zd u q5.out);have d6:=Za (a4.out.trans (u.mono a4.out.size));clear a4;clear u l8;rcases j2 with ⟨e2,rfl⟩|⟨e2,rfl⟩
    case inr =>
     replace e2:=Za e2;go_wp2_with fail;refine leaves_cons (f:=39) (args:=#[.pointer (some ⟨w.heap.size,0,none⟩)]) (by simp) (by simp[go_sem]) ?_;have Y:=(q5.out).cell 0;simp at Y;refine(Zeg ⟨w.heap.size,0,none⟩ 16 0 _ Y ((q5.out).frozen 0)).mono ?_;rintro e u' w'' ⟨rfl,rfl,a3⟩;obtain⟨V,hV,d8,-,-,hk,sV⟩:=Zt 117 #[.int .i64 16] (d6.out) ((d6.out).size);obtain⟨U,hU,d9,q3,-,kq,-⟩:=Zbr 16 d8 (Qa _) (hk _ _ _ (q5.out));rw[hV,hU]at a3;subst a3;have r4:=q3.cell 0;simp at r4;exact⟨.tuple #[.slice none 0 0,.int .i64 16],by simp[results,Tryz.results10,go_sem,r4],⟨d9,.inl ⟨c5.out,rt,by rw[hm.out];exact f9,.inr ⟨e2.out,rfl⟩⟩⟩⟩
    obtain⟨q2,f5,h5,g0,g9⟩:=Zbr 0 d6.out (Qa _) q5.out;have y0:=q5.out.cell 0;have z0:=q5.out.frozen 0;simp at y0;have x0:=g0.cell 0;simp at x0;have i0:=Za (d5.out.code (x:=0) q5.out);rw[f5]at i0;replace e2:=Za e2;have r4:=g0.cell 0;simp at r4;clear g9;go_wp2_with fail;(try rw[f5]);refine leaves_cons (f:=39) (args:=#[.pointer (some ⟨w.heap.size,0,none⟩)]) (by simp) (by simp[go_sem]) ?_;refine(Zkv _ _).mono ?_;rintro e u' w'' ⟨rfl,rfl,rfl⟩;exact⟨.tuple #[.slice (some ⟨gO,0,none⟩) i i,.int .i64 0],by simp[results,Tryz.results10,go_sem,r4],h5,.inl ⟨c5.out,rt,by rw[hm.out];exact f9,.inl ⟨e2.out,_,_,by rw[hm.out],by rw[hm.out];exact i0.out⟩⟩⟩
   | succ t' =>
    obtain rfl:t'=m-(i+1):=by omega
    have b2:i<m:=by omega
    have t1:decide ((i:Int)<(m:Int))=true:=decide_eq_true (by omega);have s2:decide (i<m)=true:=decide_eq_true b2;have bi:(i:Int)<(m:Int):=by omega
    have q7:IntKind.i64.wrap ((i:Int)+1)=(i:Int)+1:=IntWalk.i64_in _ (by omega);obtain⟨ri,f7⟩:=Zal (L:=L2) (i:=i) (by rw[I.out.1];exact b2);obtain⟨r0,h0⟩:=Zal (L:=L) (i:=i) (by rw[k4.out];exact b2);obtain⟨ci,zi⟩:=o.out.cell f7;rw[I.out.2.2.1 i ri f7]at ci;have kc:=(o.out.row f7).2;rw[I.out.2.2.1 i ri f7]at kc;have r9:=kc.1;have n2:=kc.2;unfold maxLen at n2;have k7:Hid (ri.g=r0.g):=Za (Zs5 I.out.2.1 f7 h0);have j8:Hid (w.heap.size<ri.g/\ri.g<e8):=Za (by rw[k7.out];exact⟨i8.out.2 r0 (Qi h0),o9.out r0 (Qi h0)⟩);clear kc;go_wp2_with fail;clear ci zi
    go_loopg [44] m (λt kv wr=>∃ (k9:Nat) (L3:List RF),k9+t=m/\kv=.int .i64 k9/\Hid (MatB 35 41 wr gO L3)/\Hid (ScT L L3 m i k9 Zfi)/\Hid (Blk wr e8 73 #[.bool sn,.slice sA sk sc,.bool sm,.slice sB sj sd])/\Hid (Fr wr sn sA sk sc sm sB sj sd Zfi)/\Hid (Blk wr w.heap.size 26 #[.int .i64 0])/\Hid (Below w.heap.size w wr))
    case atStart=>exact⟨0,L2,by omega,rfl,o,I,qs,sf,q5,a4⟩
    case round =>
     clear o I qs sf q5 a4;obtain⟨wk,rfl⟩:∃ x:World,x=wr:=⟨_,rfl⟩;obtain⟨k9,L3,q8,rfl,o,I,qs,sf,q5,a4⟩:=hrel;cases gk with
     | zero =>
      obtain rfl:k9=m:=by omega
      have t2:decide ((k9:Int)<(k9:Int))=false:=by simp
      have n7:=Za I.out.next;clear I;go_wp2_with fail
      go_roundg (k9-(i+1))
      case measure=>omega
      case rel=>exact⟨i+1,L3,by omega,by go_num,o,n7,qs,sf,q5,a4⟩
     | succ t'' =>
      obtain rfl:t''=m-(k9+1):=by omega
      have b0:k9<m:=by omega
      have t2:decide ((k9:Int)<(m:Int))=true:=decide_eq_true (by omega);have r2:decide (k9<m)=true:=decide_eq_true b0;have bk:(k9:Int)<(m:Int):=by omega
      have r5:IntKind.i64.wrap ((k9:Int)+1)=(k9:Int)+1:=IntWalk.i64_in _ (by omega);obtain⟨r3,b8⟩:=Zal (L:=L3) (i:=i) (by rw[I.out.1];exact b2);have c4:r3.g=ri.g:=(Zs5 I.out.2.1 b8 h0).trans k7.out.symm;have g5:=I.out.2.2.1 i r3 b8;obtain⟨fn,fA,fk,fc,fm,fB,fj,fd,p0,p1,p2,p3,a1⟩:=(o.out.row b8).1.at_ (i:=k9) (by rw[g5];exact b0);rw[c4]at p0 p1 p2 p3
      have e6:r3.q[k9]?.getD 0=X i (m+k9):=by
       have h9:=I.out.2.2.2 i k9 b2 b0;rw[if_neg (by omega),Zdf,Zcl b8]at h9;rw[h9];exact d4.out i k9 b2 b0
      rw[e6]at a1;have n8:Hid (Sm (X i (m+k9))):=Za (Zwx e3 n1.out b2 b0);replace a1:=Za a1;replace e6:=Za e6;replace c4:=Za c4;replace g5:=Za g5;obtain⟨q4,b1⟩:∃ g,wk.heap.size=g:=⟨_,rfl⟩;obtain⟨i1,f3,O,J⟩:=Zoj (w:=wk) 41 #[.bool fn,.slice fA fk fc,.bool fm,.slice fB fj fd];rw[b1]at O;replace o:=Za (o.out.below J);replace qs:=Za (Zd J qs.out);replace sf:=Za (sf.out.below J);replace q5:=Za (Zd J q5.out);replace a1:=Za (a1.out.below J);have d7:=Za (a4.out.trans (J.mono a4.out.size));clear a4;clear J;replace O:=Za O;obtain⟨x0,x1,x2,x3,-⟩:=O.out.four;obtain⟨u0,u1,u2,u3,-⟩:=qs.out.four;obtain⟨l7,b4⟩:∃ g,i1.heap.size=g:=⟨_,rfl⟩;obtain⟨m8,f4,a2,y⟩:=Zoj (w:=i1) 73 #[.bool sn,.slice sA sk sc,.bool sm,.slice sB sj sd];rw[b4]at a2;replace o:=Za (o.out.below y);replace qs:=Za (Zd y qs.out);replace sf:=Za (sf.out.below y);replace q5:=Za (Zd y q5.out);replace a1:=Za (a1.out.below y);replace O:=Za (Zd y O.out);have d3:=Za (d7.out.trans (y.mono d7.out.size));clear d7;clear y;replace a2:=Za a2;go_wp2_with fail;(try rw[b1]);(try rw[f3]);(try rw[b4]);(try rw[f4]);clear f3;replace b1:=Za b1;clear f4;replace b4:=Za b4;clear p0 p1 p2 p3 x0 x1 x2 x3 u0 u1 u2 u3;have h2:=Za (FL.sing1 a2.out sf.out)
      refine(Zjz fn fA fk fc fm fB fj fd _ (some ⟨l7,0,none⟩) 1 1 [Zfi] m8 a1.out h2.out (by decide) (Zxu n8.out) (sm_sing Zxl)).mono ?_;rintro e b9 ⟨a5,pn,pA,pk,pc,pm,pB,pj,pd,rfl,pf⟩;replace o:=Za (o.out.below a5);replace qs:=Za (Zd a5 qs.out);replace sf:=Za (sf.out.below a5);replace q5:=Za (Zd a5 q5.out);replace a1:=Za (a1.out.below a5);replace O:=Za (Zd a5 O.out);replace a2:=Za (Zd a5 a2.out);replace h2:=Za (h2.out.below a5);have f6:=Za (d3.out.trans (a5.mono d3.out.size));clear d3;clear a5;rw[prodF1]at pf;clear h2;clear a2;clear O;clear a1
      obtain⟨m3,l1,m2,l5⟩:(b9.cell? ⟨ri.g,k9*4,none⟩).isSome/\(b9.cell? ⟨ri.g,k9*4+1,none⟩).isSome/\(b9.cell? ⟨ri.g,k9*4+2,none⟩).isSome/\(b9.cell? ⟨ri.g,k9*4+3,none⟩).isSome:=by
       obtain⟨_,_,_,_,_,_,_,_,c0,c1,c2,c3,-⟩:=(o.out.row b8).1.at_ (i:=k9) (by rw[g5.out];exact b0);rw[c4.out]at c0 c1 c2 c3;rw[c0,c1,c2,c3];exact⟨rfl,rfl,rfl,rfl⟩
      obtain⟨v0,c0⟩:=Option.isSome_iff_exists.1 m3;obtain⟨v1,c1⟩:=Option.isSome_iff_exists.1 l1;obtain⟨v2,c2⟩:=Option.isSome_iff_exists.1 m2;obtain⟨v3,c3⟩:=Option.isSome_iff_exists.1 l5;have a7:=(o.out.row b8).1;have z0:=a7.frozen (k9*4);have z1:=a7.frozen (k9*4+1);have z2:=a7.frozen (k9*4+2);have z3:=a7.frozen (k9*4+3);rw[c4.out]at z0 z1 z2 z3;obtain⟨bt,bcs,j1,l0⟩:=a7.box;have h3:=o.out.set_ b8 (k:=k9) (by rw[g5.out];exact b0) pf;obtain⟨U,hU⟩:∃ U,Zel b9 ri.g k9 pn pA pk pc pm pB pj pd=U:=⟨_,rfl⟩;rw[c4.out]at h3 j1;rw[<- c4.out]at h3
      have g2:MatB 35 41 U gO (L3.set i ⟨r3.g,r3.c,r3.q.set k9 (X i (m+k9)*Zfi)⟩):=by
       rw[<- hU,<- c4.out];exact h3
      have q1:=Za (I.out.step b8 b2 b0 (x:=X i (m+k9)*Zfi) (by rw[d4.out i k9 b2 b0]));have j3:Blk U e8 73 #[.bool sn,.slice sA sk sc,.bool sm,.slice sB sj sd]:=by rw[<- hU];exact Zjd qs.out (by have:=j8.out;omega)
      have k2:Blk U w.heap.size 26 #[.int .i64 0]:=by rw[<- hU];exact Zjd q5.out (by have:=j8.out;omega)
      have k0:Fr U sn sA sk sc sm sB sj sd Zfi:=by rw[<- hU];exact Zh4 sf.out j1 l0
      have j5:Below w.heap.size w U:=by rw[<- hU];exact Zgk f6.out (by have:=j8.out;omega)
      unfold Zel at hU;replace g2:=Za g2;replace j3:=Za j3;replace k2:=Za k2;replace k0:=Za k0;replace j5:=Za j5;clear o I qs q5 sf a7 j1 l0 h3 m3 l1 m2 l5 f6 pf;have r1:=Zsn pn pA pk pc pm pB pj pd;go_wp2_with fail;(try rw[hU])
      go_roundg (m-(k9+1))
      case measure=>omega
      case rel=>exact⟨k9+1,_,by omega,by go_num,g2,q1,j3,k0,k2,j5⟩
theorem Zk2(xn:Bool)(xA:Option Addr)(xk xc:Nat)(xm:Bool)(xB:Option Addr)(xj xd:Nat)(yn:Bool)(yA:Option Addr)(yk yc:Nat)(ym:Bool)(yB:Option Addr)(yj yd:Nat)(a b:Rat)(w:World)(ha:Fr w xn xA xk xc xm xB xj xd a)(hb:Fr w yn yA yk yc ym yB yj yd b)(sa:Sm a)(sb:Sm b) :
    Calls Tryz.prog 96 #[.agg #[.bool xn,.slice xA xk xc,.bool xm,.slice xB xj xd],.agg #[.bool yn,.slice yA yk yc,.bool ym,.slice yB yj yd]] w (Zd0 w (a-b)):=by
 obtain⟨W0,a4,C,⟨q0,q1,q2⟩,s0⟩:=Zcu w 41 #[.bool xn,.slice xA xk xc,.bool xm,.slice xB xj xd] 41 #[.bool yn,.slice yA yk yc,.bool ym,.slice yB yj yd] 41 #[.bool false,.slice none 0 0,.bool false,.slice none 0 0];obtain⟨a0,a1,a2,a3,-⟩:=q0.four;obtain⟨b0,b1,b2,b3,-⟩:=q1.four;obtain⟨gR,U⟩:∃ g,w.heap.size+1+1=g:=⟨_,rfl⟩;rw[U]at q2;have hA:=ha.below C;have hD:=hb.below C;go_enter Tryz.func96,Tryz.ntmps96;go_wp2_with fail;(try rw[a4]);refine(Zj9 xn xm yn ym xA xB yA yB xk xc xj xd yk yc yj yd a b W0 hA hD sa sb).mono ?_;rintro e w1 ⟨h,pn,pA,pk,pc,pm,pB,pj,pd,rfl,hf⟩;replace q2:=Zd h q2;clear a0 a1 a2 a3 b0 b1 b2 b3 q0 q1 hA hD;obtain⟨V1,a8,y,t0,tz⟩:=Zax w1 41 #[.bool false,.slice none 0 0,.bool false,.slice none 0 0];have a7:=Zd y q2;obtain⟨gn,T⟩:∃ g,w1.heap.size=g:=⟨_,rfl⟩
 have a6:gR<gn:=by
  have h1:=h.size;omega
 rw[T]at t0;obtain⟨u0,u1,u2,u3,v0,v1,v2,v3⟩:=t0.four;obtain⟨V2,V,p2,Y,s2⟩:=Zbs pn pA pk pc pm pB pj pd t0;have f:Below w1.heap.size w1 V2:=y.trans (Y.to_below (λk e=>by omega) y.size);have u:=Zd f q2;have O:=hf.below f;obtain⟨o0,o1,o2,o3,-⟩:=p2.four;obtain⟨c0,c1,c2,c3,z0,z1,z2,z3⟩:=u.four;obtain⟨W5,a5,q5,J,s5⟩:=Zbs pn pA pk pc pm pB pj pd u;have hr:=O.keptN J u (Zcf _ _ _ _ _ _ _ _);have o:=C;replace f:=Za f;replace hr:=Za hr;clear hf O;go_wp2_with fail;(try rw[T]);(try rw[V]);(try rw[U]);go_wp2_with fail;(try rw[a5]);obtain⟨r0,r1,r2,r3,-⟩:=q5.four;refine bodyPost_ret (v:=.agg #[.bool pn,.slice pA pk pc,.bool pm,.slice pB pj pd]) (by simp[results,Tryz.results96,go_sem,r0,r1,r2,r3]) rfl ?_;refine⟨?_,_,_,_,_,_,_,_,_,rfl,hr.out⟩;have I:=o.trans ((h.trans (f.out.mono h.size)).mono o.size);exact I.trans (J.to_below (λk e=>by omega) I.size)
theorem Zho(xn:Bool)(xA:Option Addr)(xk xc:Nat)(xm:Bool)(xB:Option Addr)(xj xd:Nat)(yn:Bool)(yA:Option Addr)(yk yc:Nat)(ym:Bool)(yB:Option Addr)(yj yd:Nat)(a b:Rat)(w:World)(ha:Fr w xn xA xk xc xm xB xj xd a)(hb:Fr w yn yA yk yc ym yB yj yd b)(sa:Sm a)(sb:Sm b) :
    Calls Tryz.prog 49 #[.agg #[.bool xn,.slice xA xk xc,.bool xm,.slice xB xj xd],.agg #[.bool yn,.slice yA yk yc,.bool ym,.slice yB yj yd]] w (Zd0 w (a*b)):=by
 obtain⟨W0,a4,C,⟨q0,q1,q2⟩,s0⟩:=Zcu w 41 #[.bool xn,.slice xA xk xc,.bool xm,.slice xB xj xd] 41 #[.bool yn,.slice yA yk yc,.bool ym,.slice yB yj yd] 41 #[.bool false,.slice none 0 0,.bool false,.slice none 0 0];obtain⟨a0,a1,a2,a3,-⟩:=q0.four;obtain⟨b0,b1,b2,b3,-⟩:=q1.four;obtain⟨gR,U⟩:∃ g,w.heap.size+1+1=g:=⟨_,rfl⟩;rw[U]at q2;have hA:=ha.below C;have hD:=hb.below C;go_enter Tryz.func49,Tryz.ntmps49;go_wp2_with fail;(try rw[a4]);refine(Zjx xn xm yn ym xA xB yA yB xk xc xj xd yk yc yj yd a b W0 hA hD sa sb).mono ?_;rintro e w1 ⟨h,pn,pA,pk,pc,pm,pB,pj,pd,rfl,hf⟩;replace q2:=Zd h q2;clear a0 a1 a2 a3 b0 b1 b2 b3 q0 q1 hA hD;obtain⟨V1,a8,y,t0,tz⟩:=Zax w1 41 #[.bool false,.slice none 0 0,.bool false,.slice none 0 0];have a7:=Zd y q2;obtain⟨gn,T⟩:∃ g,w1.heap.size=g:=⟨_,rfl⟩
 have a6:gR<gn:=by
  have h1:=h.size;omega
 rw[T]at t0;obtain⟨u0,u1,u2,u3,v0,v1,v2,v3⟩:=t0.four;obtain⟨V2,V,p2,Y,s2⟩:=Zbs pn pA pk pc pm pB pj pd t0;have f:Below w1.heap.size w1 V2:=y.trans (Y.to_below (λk e=>by omega) y.size);have u:=Zd f q2;have O:=hf.below f;obtain⟨o0,o1,o2,o3,-⟩:=p2.four;obtain⟨c0,c1,c2,c3,z0,z1,z2,z3⟩:=u.four;obtain⟨W5,a5,q5,J,s5⟩:=Zbs pn pA pk pc pm pB pj pd u;have hr:=O.keptN J u (Zcf _ _ _ _ _ _ _ _);have o:=C;replace f:=Za f;replace hr:=Za hr;clear hf O;go_wp2_with fail;(try rw[T]);(try rw[V]);(try rw[U]);go_wp2_with fail;(try rw[a5]);obtain⟨r0,r1,r2,r3,-⟩:=q5.four;refine bodyPost_ret (v:=.agg #[.bool pn,.slice pA pk pc,.bool pm,.slice pB pj pd]) (by simp[results,Tryz.results49,go_sem,r0,r1,r2,r3]) rfl ?_;refine⟨?_,_,_,_,_,_,_,_,_,rfl,hr.out⟩;have I:=o.trans ((h.trans (f.out.mono h.size)).mono o.size);exact I.trans (J.to_below (λk e=>by omega) I.size)
theorem Zlj(xn:Bool)(xA:Option Addr)(xk xc:Nat)(xm:Bool)(xB:Option Addr)(xj xd:Nat)(yn:Bool)(yA:Option Addr)(yk yc:Nat)(ym:Bool)(yB:Option Addr)(yj yd:Nat)(a b:Rat)(w:World)(ha:Fr w xn xA xk xc xm xB xj xd a)(hb:Fr w yn yA yk yc ym yB yj yd b)(sa:Sm a)(sb:Sm b)(h0:b≠0) :
    Calls Tryz.prog 95 #[.agg #[.bool xn,.slice xA xk xc,.bool xm,.slice xB xj xd],.agg #[.bool yn,.slice yA yk yc,.bool ym,.slice yB yj yd]] w (Zd0 w (a/b)):=by
 obtain⟨W0,a4,C,⟨q0,q1,q2⟩,s0⟩:=Zcu w 41 #[.bool xn,.slice xA xk xc,.bool xm,.slice xB xj xd] 41 #[.bool yn,.slice yA yk yc,.bool ym,.slice yB yj yd] 41 #[.bool false,.slice none 0 0,.bool false,.slice none 0 0];obtain⟨a0,a1,a2,a3,-⟩:=q0.four;obtain⟨b0,b1,b2,b3,-⟩:=q1.four;obtain⟨gR,U⟩:∃ g,w.heap.size+1+1=g:=⟨_,rfl⟩;rw[U]at q2;have hA:=ha.below C;have hD:=hb.below C;go_enter Tryz.func95,Tryz.ntmps95;go_wp2_with fail;(try rw[a4]);refine(Zmh xn xm yn ym xA xB yA yB xk xc xj xd yk yc yj yd a b W0 hA hD sa sb h0).mono ?_;rintro e w1 ⟨h,pn,pA,pk,pc,pm,pB,pj,pd,rfl,hf⟩;replace q2:=Zd h q2;clear a0 a1 a2 a3 b0 b1 b2 b3 q0 q1 hA hD;obtain⟨V1,a8,y,t0,tz⟩:=Zax w1 41 #[.bool false,.slice none 0 0,.bool false,.slice none 0 0];have a7:=Zd y q2;obtain⟨gn,T⟩:∃ g,w1.heap.size=g:=⟨_,rfl⟩
 have a6:gR<gn:=by
  have h1:=h.size;omega
 rw[T]at t0;obtain⟨u0,u1,u2,u3,v0,v1,v2,v3⟩:=t0.four;obtain⟨V2,V,p2,Y,s2⟩:=Zbs pn pA pk pc pm pB pj pd t0;have f:Below w1.heap.size w1 V2:=y.trans (Y.to_below (λk e=>by omega) y.size);have u:=Zd f q2;have O:=hf.below f;obtain⟨o0,o1,o2,o3,-⟩:=p2.four;obtain⟨c0,c1,c2,c3,z0,z1,z2,z3⟩:=u.four;obtain⟨W5,a5,q5,J,s5⟩:=Zbs pn pA pk pc pm pB pj pd u;have hr:=O.keptN J u (Zcf _ _ _ _ _ _ _ _);have o:=C;replace f:=Za f;replace hr:=Za hr;clear hf O;go_wp2_with fail;(try rw[T]);(try rw[V]);(try rw[U]);go_wp2_with fail;(try rw[a5]);obtain⟨r0,r1,r2,r3,-⟩:=q5.four;refine bodyPost_ret (v:=.agg #[.bool pn,.slice pA pk pc,.bool pm,.slice pB pj pd]) (by simp[results,Tryz.results95,go_sem,r0,r1,r2,r3]) rfl ?_;refine⟨?_,_,_,_,_,_,_,_,_,rfl,hr.out⟩;have I:=o.trans ((h.trans (f.out.mono h.size)).mono o.size);exact I.trans (J.to_below (λk e=>by omega) I.size)
theorem Znm(A:Option Addr)(n c:Nat)(es:List FX)(w:World)(h:FXL w A n c es)(b:Bool)(hb:Zep es=b) :
    Calls Tryz.prog 56 #[.slice A n c] w λe w'=>e=.returned (.bool b)/\Below w.heap.size w w':=by
 have hl:=h.1;have b1:=h.2.1;have a6:=h.2.2.1;unfold maxLen at a6;replace hl:=Za hl;replace hb:=Za hb;replace h:=Za h;go_enter Tryz.func56,Tryz.ntmps56;go_wp2_with fail
 go_loopw [3] (λiv wr=>∃ i:Nat,i<=n/\iv=.int .i64 i/\Hid (∀ j e,j<i->es[j]?=some e->e.fine64=true)/\Below w.heap.size w wr) (λiv _=>n-(intOf iv).toNat)
 case atStart=>exact⟨0,Qq _,rfl,Za (λj e hj=>by omega),Qc _ _⟩
 case round =>
  obtain⟨i,b0,rfl,J,u⟩:=hrel;by_cases hin:i<n
  case neg =>
   obtain rfl:n=i:=by omega
   have a5:decide ((n:Int)<(n:Int))=false:=by simp
   obtain rfl:b=true:=by
    rw[<- hb.out];unfold Zep;rw[List.all_eq_true];intro e he;obtain⟨j,hj,a2⟩:=Qv he;exact J.out j e (by rw[hl.out]at hj;exact hj) (by rw[Qf hj,a2])
   go_wp2_with fail;go_ret;exact⟨rfl,u⟩
  have a5:decide ((i:Int)<(n:Int))=true:=decide_eq_true (by omega);obtain⟨g,o,e,rfl,he,hc,I,C⟩:=(h.out.below u).at_ hin;obtain⟨c0,c1,c2,c3⟩:=hc;have a1:=I.2.1;have Y:=I.2.2.1;have a4:=C.2.1;have y:=C.2.2.1;have O:=Qn a1 Y;have U:=Qn a4 y;unfold maxLen at Y y
  have bad:e.fine64=false->b=false:=λhf=>by
   rw[<- hb.out];unfold Zep;rw[List.all_eq_false];exact⟨e,Qi he,by rw[hf];decide⟩
  replace bad:=Za bad;have hF:=Za (λW1=>Few_any e.na e.nb e.A e.B e.n e.c e.m e.d W1 O U);obtain⟨x,hx⟩:∃ x,e.ok=x:=⟨_,rfl⟩;have hC:=Za (λW1 (hb:Below wr.heap.size wr W1)=>Zqt e.na e.nb e.A e.B e.n e.c e.m e.d e.la e.lb W1 (I.below hb) (C.below hb) x hx);obtain⟨k,hk⟩:∃ k,max e.n e.m=k:=⟨_,rfl⟩;have a9:k<=9223372036854775807:=by unfold maxLen at O U;omega
  rw[hk]at hF;replace hk:=Za hk;clear I C O U;by_cases h1:64<k
  ·have t1:decide ((64:Int)<(k:Int))=true:=decide_eq_true (by omega)
   obtain rfl:b=false:=bad.out (by unfold FX.fine64 FX.few;rw[hk.out,decide_eq_false (by omega)];rfl);replace he:=Za he;replace hx:=Za hx;clear hC;go_wp2_with fail;refine(hF.out _).mono ?_;rintro e' w1 ⟨rfl,y⟩;go_wp2_with fail;go_ret;exact⟨rfl,(by first|exact u.trans (y.mono u.size)|exact(Zf u _).trans (y.mono u.size))⟩
  have t1:decide ((64:Int)<(k:Int))=false:=decide_eq_false (by omega);cases x
  ·obtain rfl:b=false:=bad.out (by unfold FX.fine64;rw[hx];simp)
   replace he:=Za he;clear hx;go_wp2_with fail;refine(hF.out _).mono ?_;rintro e' w1 ⟨rfl,f⟩;have a3:=Zb f c0;have a0:=Zb f c1;have a8:=Zb f c2;have a7:=Zb f c3;go_wp2_with fail;refine(hC.out _ (by first|exact f|exact Zf f _)).mono ?_;rintro e' w2 ⟨rfl,T⟩;simp only[Zfr,Bool.false_eq_true,if_false];go_wp2_with fail;go_ret;exact⟨rfl,u.trans ((f.trans (T.mono f.size)).mono u.size)⟩
  ·have V:Hid (∀ j e,j<i+1->es[j]?=some e->e.fine64=true):=Za (λj e' hj he'=>by
     rcases Nat.lt_or_ge j i with h'|h';exact J.out j e' h' he'
     ·obtain rfl:j=i:=by omega
      rw[he]at he';cases he';unfold FX.fine64 FX.few;rw[hx,hk.out,decide_eq_true (by omega)];rfl)
   replace he:=Za he;clear hx;go_wp2_with fail;refine(hF.out _).mono ?_;rintro e' w1 ⟨rfl,f⟩;have a3:=Zb f c0;have a0:=Zb f c1;have a8:=Zb f c2;have a7:=Zb f c3;go_wp2_with fail;refine(hC.out _ (by first|exact f|exact Zf f _)).mono ?_;rintro e' w2 ⟨rfl,T⟩;simp only[Zfr,if_true];go_wp2_with fail
   go_roundw
   case rel=>exact⟨i+1,by omega,by go_num,V,u.trans ((f.trans (T.mono f.size)).mono u.size)⟩
   case measure=>simp[intOf];omega
theorem Zkd{w:World}{t:TypeId}{g:Nat}{A:Option Addr}{n c:Nat}(h:Blk w g t #[.slice A n c]):Reads w (g+1) 1 (some ⟨g,0,none⟩) 1 (Zak [⟨A,n,c⟩]):=
 ⟨rfl,λ_=>⟨_,rfl,Nat.lt_succ_self _,λj u hu=>by
  rw[Zh,Qt,h.cell];simpa [Zak]using hu⟩⟩
def Zcb(Q:List (List Rat))(xs:List Rat)(n:Nat):List (List Rat):=(QA n).map λi=>Q[i]?.getD [] ++ [xs[i]?.getD 0]
section
variable{Q:List (List Rat)}{xs:List Rat}{n:Nat}
theorem Zkm:(Zcb Q xs n).length=n:=by simp[Zcb]
theorem Zmd{i:Nat}(h:i<n):(Zcb Q xs n)[i]?.getD []=Q[i]?.getD [] ++ [xs[i]?.getD 0]:=by simp[Zcb,h]
theorem Zvv{i:Nat}(h:i<n):(Zcb Q xs n)[i]?=some (Q[i]?.getD [] ++ [xs[i]?.getD 0]):=by simp[Zcb,h]
theorem Zn9(hm:∀ i,i<n->(Q[i]?.getD []).length=n){i:Nat}(h:i<n):((Zcb Q xs n)[i]?.getD []).length=n+1:=by rw[Zmd h,Qo,hm i h];rfl
theorem Zwe(hm:∀ i,i<n->(Q[i]?.getD []).length=n){i k:Nat}(h:i<n)(hk:k<n):Zl (Zcb Q xs n) i k=Zl Q i k:=by
 unfold Zl;rw[Zmd h,List.getElem?_append_left (by rw[hm i h];exact hk)]
theorem Zsk(hm:∀ i,i<n->(Q[i]?.getD []).length=n){i:Nat}(h:i<n):Zl (Zcb Q xs n) i n=xs[i]?.getD 0:=by
 unfold Zl;rw[Zmd h,List.getElem?_append_right (by rw[hm i h];exact Qa _),hm i h,Nat.sub_self];rfl
theorem Ztb(hm:∀ i,i<n->(Q[i]?.getD []).length=n){i k:Nat}(h:i<n)(hk:n<k):Zl (Zcb Q xs n) i k=0:=by
 unfold Zl;rw[Qd (by rw[Zn9 hm h];omega)];rfl
end
section
variable{R:List (List Rat)}{n m:Nat}
theorem Zqz(hrow:∀ i,i<R.length->(R[i]?.getD []).length=m){r c i j:Nat}(hi:i<R.length)(hr:r<R.length)(hj:c<=j) :
    Zl (Za3 R r c) i j=if i<=r then Zl R i j else Zl R i j-Zl R i c/Zl R r c*Zl R r j:=by
 unfold Za3;show ((List.map _ (QA R.length))[i]?.getD [])[j]?.getD 0=_;rw[Qe,Qk hi];simp only[Qm,QB];by_cases h1:i<=r;rw[if_pos h1,if_pos h1];rfl
 ·rw[if_neg h1,if_neg h1]
  unfold Zk5;rw[Qe];by_cases hjl:j<(R[i]?.getD []).length
  ·rw[Qk hjl]
   simp only[Qm,QB];rw[if_neg (by omega)];rfl
  ·rw[Qd (l:=QA _) (by simpa using hjl)]
   simp only[Option.map_none,Option.getD_none];have e1:Zl R i j=0:=by unfold Zl;rw[Qd (by omega)];rfl
   have e2:Zl R r j=0:=by unfold Zl;rw[Qd (by rw[hrow i hi]at hjl;rw[hrow r hr];omega)];rfl
   rw[e1,e2];grind
theorem Zpz(hrow:∀ i,i<R.length->(R[i]?.getD []).length=m){r c i:Nat}(hi:i<R.length):((Za3 R r c)[i]?.getD []).length=m:=by
 rw[Ziu hi]
 split
 exact hrow i hi
 ·unfold Zk5
  rw[Ql,List.length_range];exact hrow i hi
theorem Zj8(hrow:∀ i,i<R.length->(R[i]?.getD []).length=m):∀ t i,i<R.length->((Zgb R t)[i]?.getD []).length=m
 | 0,i,hi=>hrow i hi
 | t+1,i,hi=>Zpz (R:=Zgb R t) (λi hi=>Zj8 hrow t i (by rw[Zhk]at hi;exact hi)) (by rw[Zhk];exact hi)
theorem Zez(hl:R.length=n)(hrow:∀ i,i<R.length->(R[i]?.getD []).length=m):∀ t,t<=n->∀ i k,i<n->min t i<=k->Zl (Zgb R t) i k=Zai (Zl R) t i k
 | 0,_,_,_,_,_=>rfl
 | t+1,ht,i,k,hi,hk=>by
  show Zl (Za3 (Zgb R t) t t) i k=if t<i then _ else _
  have hL:(Zgb R t).length=n:=by rw[Zhk,hl]
  have hR:∀ i,i<(Zgb R t).length->((Zgb R t)[i]?.getD []).length=m:=λi hi=>Zj8 hrow t i (by rw[Zhk]at hi;exact hi);by_cases hti:t<i
  ·have f:t+1<=k:=by omega
   rw[if_pos hti,Zqz hR (by rw[hL];exact hi) (by rw[hL];omega) (by omega),if_neg (by omega),
    Zez hl hrow t (by omega) i k hi (by omega),Zez hl hrow t (by omega) i t hi (by omega),Zez hl hrow t (by omega) t t (by omega) (by omega),Zez hl hrow t (by omega) t k (by omega) (by omega)]
  ·rw[if_neg hti]
   have e:i<=k:=by omega
   have:Zl (Za3 (Zgb R t) t t) i k=Zl (Zgb R t) i k:=by
    unfold Zl;rw[Ziu (by rw[hL];exact hi),if_pos (by omega)]
   rw[this];exact Zez hl hrow t (by omega) i k hi (by omega)
end
def SolvC(E X:Nat->Nat->Rat)(n:Nat):Prop:=
 (∀ i,i<n->X i n=upS E X i n n/E i i)/\(∀ i,SmN 300 300 (X i n))/\∀ i t,SmN 400 400 (upS E X i n t)
def Zl1(B0:Nat)(q:Rat)(ca al:Nat)(i:Nat)(v:Value)(w:World):Prop:=
 if i=ca then ∃ na A n c nb B m d,v=.agg #[.bool na,.slice A n c,.bool nb,.slice B m d]/\Fr w na A n c nb B m d q
 else if i=al then ∃ g,v=.pointer (some ⟨g,0,none⟩)/\B0<=g/\Blk w g 41 #[.bool false,.slice none 0 0,.bool false,.slice none 0 0]
 else True
theorem Zrp{B0:Nat}{q:Rat}{ca al i:Nat}{v:Value}{w w':World}(hb:Below w.heap.size w w')(h:Zl1 B0 q ca al i v w):Zl1 B0 q ca al i v w':=by
 unfold Zl1 at h ⊢
 split at h
 ·rename_i h1;rw[if_pos h1]
  obtain⟨na,A,n,c,nb,B,m,d,e,hf⟩:=h;exact⟨na,A,n,c,nb,B,m,d,e,hf.below hb⟩
 ·rename_i h1;rw[if_neg h1]
  split at h
  ·rename_i h4;rw[if_pos h4]
   obtain⟨g,e,h5,h6⟩:=h;exact⟨g,e,h5,Zd hb h6⟩
  rename_i h4;rw[if_neg h4];trivial
def FTail(t:TypeId)(w:World)(g n i:Nat)(x:Nat->Rat):Prop:=∃ es:List FE,Blk w g t (Zz es)/\es.length=n/\∀ (j:Nat) (e:FE),i<=j->es[j]?=some e->e.in_ w/\e.q=x j
section
variable{t:TypeId}{w w':World}{g n i:Nat}{x:Nat->Rat}
theorem FTail.new(t:TypeId)(w:World)(n:Nat)(x:Nat->Rat):FTail t (w.alloc (.cells (Zz (Qj n Zau)) t)) w.heap.size n n x:=
 ⟨_,Qp _ _ _,by simp,λj e h1 h2=>by rw[Qd (by simp;exact h1)]at h2;cases h2⟩
theorem FTail.below(h:FTail t w g n i x)(hb:Below w.heap.size w w'):FTail t w' g n i x:=by
 obtain⟨es,h1,h2,h3⟩:=h;exact⟨es,Zd hb h1,h2,λj e hj he=>⟨(h3 j e hj he).1.below hb,(h3 j e hj he).2⟩⟩
theorem FTail.at_(h:FTail t w g n i x){j:Nat}(hij:i<=j)(hj:j<n):∃ na A k c nb B m d,w.cell? ⟨g,j*4,none⟩=some (.bool na)/\w.cell? ⟨g,j*4+1,none⟩=some (.slice A k c)/\w.cell? ⟨g,j*4+2,none⟩=some (.bool nb)/\w.cell? ⟨g,j*4+3,none⟩=some (.slice B m d)/\Fr w na A k c nb B m d (x j):=by
 obtain⟨es,h1,h2,h3⟩:=h;have he:=Qf (l:=es) (i:=j) (by omega);have hc:=Zds he;obtain⟨h4,h5⟩:=h3 j _ hij he;unfold FE.in_ at h4;rw[h5]at h4;exact⟨_,_,_,_,_,_,_,_,by rw[h1.cell];exact hc.1,by rw[h1.cell];exact hc.2.1,by rw[h1.cell];exact hc.2.2.1,by rw[h1.cell];exact hc.2.2.2,h4⟩
theorem FTail.raw(h:FTail t w g n i x):FRaw t w g n:=by obtain⟨es,h1,h2,-⟩:=h;exact⟨es,h1,by omega⟩
theorem FTail.set_(h:FTail t w g n (i+1) x)(hi:i<n){na:Bool}{A:Option Addr}{k c:Nat}{nb:Bool}{B:Option Addr}{m d:Nat}(hf:Fr w na A k c nb B m d (x i)):FTail t (Zel w g i na A k c nb B m d) g n i x:=by
 obtain⟨es,h1,h2,h3⟩:=h;have hb:=(((h1.set_ (i*4) (.bool na)).set_ (i*4+1) (.slice A k c)).set_ (i*4+2) (.bool nb)).set_ (i*4+3) (.slice B m d);have hs:=Zha (es:=es) (i:=i) ⟨na,A,k,c,nb,B,m,d,x i⟩ (by omega);dsimp only at hs;rw[hs]at hb;have f:=Zb0 es;refine⟨_,hb,by rw[QC];exact h2,λj e hj he=>?_⟩;rw[Qg]at he;by_cases hij:i=j
 ·subst hij
  rw[if_pos rfl,if_pos (by omega)]at he;cases he;exact⟨Zh4 hf h1 f,rfl⟩
 ·rw[if_neg hij]at he
  have:=h3 j e (by omega) he;exact⟨Zh4 this.1 h1 f,this.2⟩
theorem FTail.fl(h:FTail t w g n 0 x)(hm:n<=maxLen):FL w (some ⟨g,0,none⟩) n n ((QA n).map x):=by
 obtain⟨es,h1,h2,h3⟩:=h;refine⟨es,h2,Qa _,hm,λe he=>?_,?_,λ_=>⟨g,0,rfl,λk e he=>?_⟩⟩
 ·obtain⟨j,hj,e2⟩:=Qv he
  exact(h3 j e (Qq _) (by rw[Qf hj,e2])).1
 ·apply QH
  intro j;rw[Qe,Qe];by_cases hj:j<n
  ·have he:=Qf (l:=es) (i:=j) (by omega)
   rw[he,Qk hj,Qm,Qm,(h3 j _ (Qq _) he).2]
  rw[Qd (by omega),Qd (by simpa using hj)];rfl
 ·have hc:=Zds he
  exact⟨by rw[Qt,h1.cell];exact hc.1,by rw[Qt,h1.cell];exact hc.2.1,by rw[Qt,h1.cell];exact hc.2.2.1,by rw[Qt,h1.cell];exact hc.2.2.2⟩
end
theorem RowS.isSlC{t:TypeId}{w:World}{base:Nat}{v:Value}{rs:List RS}(h:RowS t w base v rs):∃ A n c,v=.slice A n c:=by
 rcases h with ⟨rfl,_⟩|⟨g,sp,rfl,_⟩;exact⟨_,_,_,rfl⟩;exact⟨_,_,_,rfl⟩
def Zu9(A X:Nat->Nat->Rat)(n:Nat)(w:World)(e:Ending)(w':World):Prop:=
 Below w.heap.size w w'/\((posP A n/\∃ B c,e=.returned (.tuple #[.slice B n c,.bool true])/\FL w' B n c ((QA n).map λi=>X i n)) \/ (¬ posP A n/\e=.returned (.tuple #[.slice none 0 0,.bool false])))
theorem Zpi(A0:Option Addr)(n c:Nat)(Q:List (List Rat))(Ax:Option Addr)(cx:Nat)(xs:List Rat)(w:World)(h:MFL w A0 n c Q)(hv:FL w Ax n cx xs)(hn0:0<n)(hn9:n<=100)(hm:∀ i,i<n->(Q[i]?.getD []).length=n)
    (hs:∀ t i k,t<=n->posP (Zl (Zcb Q xs n)) t->i<n->SmN 380 380 (Zai (Zl (Zcb Q xs n)) t i k)) (hl:∀ i k,k<=i->i<n->posP (Zl (Zcb Q xs n)) (k+1)->SmN 300 300 (lQ (Zl (Zcb Q xs n)) i k))
    (X:Nat->Nat->Rat) (hX:posP (Zl (Zcb Q xs n)) n->SolvC (λi j=>Zai (Zl (Zcb Q xs n)) i i j) X n) :
    Calls Tryz.prog 57 #[.slice A0 n c,.slice Ax n cx] w (Zu9 (Zl (Zcb Q xs n)) X n w):=by
 obtain⟨iF,hi,k6,j9,i5⟩:=info_parts Zdg;obtain⟨iS,ki,z6,z9,y6⟩:=info_parts Zeu;have hmx:Tryz.prog.follows .mixedOrders=true:=by kernel_rfl
 have t6:(35:TypeId)≠41:=by decide
 have P3:=h.2.1;have L5:=h.2.2.1;unfold maxLen at L5;have C7:=hv.cap;unfold maxLen at C7;obtain⟨R,hR⟩:∃ R,Zcb Q xs n=R:=⟨_,rfl⟩;have s8:Hid (R.length=n):=Za (by rw[<- hR];exact Zkm);have m8:Hid (∀ i,i<R.length->(R[i]?.getD []).length=n+1):=Za (λi hi=>by rw[<- hR]at hi ⊢;exact Zn9 hm (by rw[Zkm]at hi;exact hi));have m9:Hid (∀ i,i<n->R[i]?=some (Q[i]?.getD [] ++ [xs[i]?.getD 0])):=Za (λi hi=>by rw[<- hR];exact Zvv hi);rw[hR]at hs hl hX ⊢;obtain⟨AR,v8⟩:∃ A,Zl R=A:=⟨_,rfl⟩;rw[v8]at hs hl hX ⊢;replace v8:=Za v8;have hH:=Za h;have N5:=Za hv;replace hs:=Za hs;replace hl:=Za hl;replace hX:=Za hX;replace hm:=Za hm;clear h hv hR;go_enter Tryz.func57,Tryz.ntmps57;go_wp2_with fail
 go_loopg [6,7] n (λk ov iv wr=>∃ (i:Nat) (L:List RF),i+k=n/\iv=.int .i64 i/\MatO 35 41 wr w.heap.size ov L/\Hid (L.map RF.q=R.take i)/\Below w.heap.size w wr)
 case atStart=>exact⟨0,[],by omega,rfl,MatO.nil _ _ _ _,Za (by simp),Qc _ _⟩
 case round =>
  obtain⟨i,L,M8,rfl,hM,hQ,hB⟩:=hrel
  have i6:L.length=i:=by
   have h1:(L.map RF.q).length=(R.take i).length:=by rw[hQ.out]
   rw[Ql,List.length_take,s8.out]at h1;omega
  cases gk with
  | succ j =>
   obtain rfl:j=n-(i+1):=by omega
   have u:i<n:=by omega
   have t1:decide ((i:Int)<(n:Int))=true:=decide_eq_true (by omega);have bi:(i:Int)<(n:Int):=by omega
   obtain⟨g,o,A1,n1,c1,rfl,k0,hF⟩:=hH.out.at_ u;have L8:n=n1:=by rw[<- hF.len];exact(hm.out i u).symm
   subst L8;obtain⟨gy,oy,xn,xA,xk,xc,xm,xB,xj,xd,rfl,⟨x0,x1,x2,x3⟩,n7⟩:=N5.out.at_ u;have C1:Hid (∀ s ∈ L,s.g<wr.heap.size):=Za (λs hs=>(hM.2.1 s hs).1.1.lt);have V:Hid ((Q[i]?.getD []).length=n):=Za (hm.out i u);obtain⟨Q4,ovn,ovc,rfl⟩:=hM.1.isSlC;replace hM:=Za hM;replace hF:=Za hF;replace n7:=Za n7;have y0:=Zb hB k0;have y1:=Zb hB x0;have y2:=Zb hB x1;have y3:=Zb hB x2;have y4:=Zb hB x3;go_wp2_with fail;obtain⟨X0,U⟩:∃ X,wr.drew=X:=⟨_,rfl⟩;have k7:Below wr.heap.size wr X0:=by rw[<- U];exact Zf (Qc _ _) 1
   have T:Hid (∀ wx,Below w.heap.size w wx->wx.cell? ⟨g,o+i,none⟩=some (.slice A1 n c1)/\wx.cell? ⟨gy,oy+i*4,none⟩=some (.bool xn)/\wx.cell? ⟨gy,oy+i*4+1,none⟩=some (.slice xA xk xc)/\wx.cell? ⟨gy,oy+i*4+2,none⟩=some (.bool xm)/\wx.cell? ⟨gy,oy+i*4+3,none⟩=some (.slice xB xj xd)):=Za (λwx f=>⟨Zb f k0,Zb f x0,Zb f x1,Zb f x2,Zb f x3⟩);have H3:Below w.heap.size w X0:=hB.trans (k7.mono hB.size);refine wp_heldS [] hmx T (by rw[U];exact H3) (λhxs=>?_);rw[U];clear y0 y1 y2 y3 y4;refine Zje 9 [0,2,3,4,5,7,8,9,10] rfl (by kernel_rfl) (T.out _ H3) ?_
   iterate 9 (refine tk1 (v:=?_) rfl (Qr ⟨by kernel_rfl,?_⟩) ?_;rotate_left;(· intro W2 hSw;(try dsimp only at hSw);go_simp;try with_reducible rfl);try simp only[Qb,Zgy,Zge,Zgs,putG_a,putG_s,putG_z])
   refine tk0 ?_;refine Zc0 (i:=1) (j:=11) rfl rfl (by kernel_rfl) (λK hK=>?_) (λK hK=>?_)
   ·obtain⟨Y1,r7⟩:∃ Y,X0.alloc (.cells #[] 41)=Y:=⟨_,rfl⟩
    obtain⟨g7,k9⟩:∃ g,X0.heap.size=g:=⟨_,rfl⟩;have E5:Below X0.heap.size X0 Y1:=by rw[<- r7];exact(Qc _ _).alloc (Qa _) _
    have E4:Blk Y1 g7 41 #[]:=by rw[<- r7,<- k9];exact Qp _ _ _
    have D0:wr.heap.size<=g7:=by rw[<- k9];exact k7.size
    have a9:=k7.trans (E5.mono k7.size);have G1:Below w.heap.size w Y1:=hB.trans (a9.mono hB.size);have l5:OwnF 41 Y1 wr.heap.size (.slice (some ⟨g7,0,none⟩) 0 0) []:=⟨[],.inr ⟨g7,0,rfl,D0,Qq _,E4⟩,λe he=>(by cases he),rfl⟩;go_simp;(try rw[r7]);(try rw[k9]);refine hK.out _ _ (λ_=>T.out _ G1) ?_;clear hK K r7 k9
    try simp only[Qb,Zgy,Zge,Zgs]
    refine Zc0 (i:=6) (j:=11) rfl rfl (by kernel_rfl) (λK hK=>?_) (λK hK=>?_)
    ·obtain⟨E2,H5,B8,C2,C4⟩:=(hF.out.below (hB.trans (a9.mono hB.size))).reads
     rw[if_pos (by rfl)];refine Z3 _ (.tmp 24) (.tmp 28) 35 rfl wr.heap.size 41 iF Tryz.underlying35 hi k6 j9 i5 (.slice (some ⟨g7,0,none⟩) 0 0) [] rfl l5 _ _ _ _ E2 rfl H5 B8 C2 (by simp;omega) a9.size ?_;intro Q1 Y4 w2 F7 O1 J3;rw[QD,C4]at w2;have l3:=a9.grown F7 a9.size (λk hk=>l5.row_ge k hk);have G4:Below w.heap.size w Y4:=hB.trans (l3.mono hB.size);refine hK.out _ _ (λ_=>T.out _ G4) ?_;clear hK K
     try simp only[Qb,Zgy,Zge,Zgs]
     refine Ze (i:=11) rfl (by kernel_rfl) (λK hK=>?_);obtain⟨Y5,t0⟩:∃ Y,Y4.alloc (.cells #[.bool xn,.slice xA xk xc,.bool xm,.slice xB xj xd] 41)=Y:=⟨_,rfl⟩;obtain⟨y7,l2⟩:∃ g,Y4.heap.size=g:=⟨_,rfl⟩;have w8:Below Y4.heap.size Y4 Y5:=by rw[<- t0];exact(Qc _ _).alloc (Qa _) _
     have G6:Blk Y5 y7 41 #[.bool xn,.slice xA xk xc,.bool xm,.slice xB xj xd]:=by rw[<- t0,<- l2];exact Qp _ _ _
     have M6:wr.heap.size<=y7:=by rw[<- l2];exact l3.size
     have h2:=l3.trans (w8.mono l3.size);have E7:Below w.heap.size w Y5:=hB.trans (h2.mono hB.size);have g5:=w2.kept w8;go_simp;(try rw[t0]);(try rw[l2]);refine hK.out _ _ (λ_=>T.out _ E7) ?_;clear hK K t0 l2
     try simp only[Qb,Zgy,Zge,Zgs]
     refine Ze (i:=12) rfl (by kernel_rfl) (λK hK=>?_);rw[if_pos (by rfl)];obtain⟨zA,zc,h8,n3⟩:=g5.fl;rw[V.out]at h8 n3;subst h8;refine Z3 _ (.tmp 29) (.tmp 34) 35 rfl wr.heap.size 41 iF Tryz.underlying35 hi k6 j9 i5 (.slice zA n zc) _ rfl g5 _ (some ⟨y7,0,none⟩) 1 1 [⟨xn,xA,xk,xc,xm,xB,xj,xd,xs[i]?.getD 0⟩] rfl (Zay _ G6) rfl (by intro e he;rw[Qy]at he;subst he;exact n7.out.below (hB.trans (h2.mono hB.size))) (by rw[V.out];omega) h2.size ?_;intro vQ Y8 w0 G0 O4 I6;simp only[Qs,Qu]at w0;have o6:=h2.grown G0 h2.size (λk hk=>g5.row_ge k hk);have E0:Below w.heap.size w Y8:=hB.trans (o6.mono hB.size);rcases w0.fown with ⟨-,b5⟩|⟨g2,c2,rfl,g8,a8,i0,m6⟩;simp at b5;have b8:(Q[i]?.getD [] ++ [xs[i]?.getD 0]).length=n+1:=by rw[Qo,V.out];rfl
     rw[b8]at a8 ⊢;refine hK.out _ _ (λ_=>T.out _ E0) ?_;clear hK K
     try simp only[Qb,Zgy,Zge,Zgs]
     obtain⟨Z1,a7⟩:∃ Z,Y8.alloc (.cells #[.slice (some ⟨g2,0,none⟩) (n+1) c2] 35)=Z:=⟨_,rfl⟩;obtain⟨gz,b1⟩:∃ g,Y8.heap.size=g:=⟨_,rfl⟩;have h3:Below Y8.heap.size Y8 Z1:=by rw[<- a7];exact(Qc _ _).alloc (Qa _) _
     have o4:Blk Z1 gz 35 #[.slice (some ⟨g2,0,none⟩) (n+1) c2]:=by rw[<- a7,<- b1];exact Qp _ _ _
     have g9:=o6.trans (h3.mono o6.size);have a5:Below w.heap.size w Z1:=hB.trans (g9.mono hB.size);refine Ze (i:=13) rfl (by kernel_rfl) (λK hK=>?_);go_simp;(try rw[a7]);(try rw[b1]);refine hK.out _ _ (λ_=>T.out _ a5) ?_;clear hK K a7 b1
     try simp only[Qb,Zgy,Zge,Zgs]
     have c6:=hM.out.kept g9;have q4:=m6.below h3;have n9:(L.map RF.rs).length+1<=1000:=by rw[Ql];omega
     refine Ze (i:=14) rfl (by kernel_rfl) (λK hK=>?_);rw[if_pos (by rfl)];refine Zag _ (.tmp 23) (.tmp 36) 25 rfl w.heap.size 35 iS Tryz.underlying25 ki z6 z9 y6 _ (L.map RF.rs) rfl c6.1 _ (some ⟨gz,0,none⟩) 1 1 [⟨some ⟨g2,0,none⟩,n+1,c2⟩] rfl (Zkd o4) rfl n9 a5.size ?_;intro v5 w5 p9 h6 r5;have c8:=a5.grown h6 a5.size (λk hk=>c6.1.row_ge k hk);have h7:∀ s ∈ L,s.g≠g2:=λs hs=>by have:=C1.out s hs;omega
     have i2:=Za (c6.snoc t6 (r:=⟨g2,c2,Q[i]?.getD [] ++ [xs[i]?.getD 0]⟩) ⟨q4,by rw[b8];exact a8,i0⟩ (Qn hB.size g8) h7 (by simp only[RF.rs,b8];exact p9) h6 r5);have q5:Hid (L.map RF.q ++ [Q[i]?.getD [] ++ [xs[i]?.getD 0]]=R.take (i+1)):=Za (by rw[hQ.out,Qz,m9.out i u];rfl);refine hK.out _ _ (λ_=>T.out _ c8) ?_;clear hK K
     try simp only[Qb,Zgy,Zge,Zgs]
     refine Zgf 1 [15] rfl (by kernel_rfl) (T.out _ c8) ?_
     (refine tk1 (v:=?_) rfl (Qr ⟨by kernel_rfl,?_⟩) ?_;rotate_left;(· intro W2 _;go_simp;try with_reducible rfl);try simp only[Qb,Zgy,Zge,Zgs,putG_a,putG_s,putG_z])
     refine tk0 ?_;refine Zj (by kernel_rfl) ?_ _;refine Qh ?_;go_wp2_with fail
     go_roundg (n-(i+1))
     case measure=>omega
     case rel=>exact⟨i+1,_,by omega,by go_num,i2.out,Za (by rw[QE];exact q5.out),c8⟩
    ·obtain⟨x5,l1⟩:∃ Y,Y1.alloc (.cells #[.bool xn,.slice xA xk xc,.bool xm,.slice xB xj xd] 41)=Y:=⟨_,rfl⟩
     obtain⟨e4,c7⟩:∃ g,Y1.heap.size=g:=⟨_,rfl⟩;have o7:Below Y1.heap.size Y1 x5:=by rw[<- l1];exact(Qc _ _).alloc (Qa _) _
     have r3:Blk x5 e4 41 #[.bool xn,.slice xA xk xc,.bool xm,.slice xB xj xd]:=by rw[<- l1,<- c7];exact Qp _ _ _
     have H9:wr.heap.size<=e4:=by rw[<- c7];exact a9.size
     have c9:=a9.trans (o7.mono a9.size);have z4:Below w.heap.size w x5:=hB.trans (c9.mono hB.size);have x9:Hid (g7<e4):=Za (by rw[<- c7];have h9:=l5.blt g7 (by simp[Value.ownBlock]);exact h9);have i1:=l5.kept o7;go_simp;(try rw[l1]);(try rw[c7]);refine hK.out _ _ (λ_=>T.out _ z4) ?_;clear hK K l1 c7
     try simp only[Qb,Zgy,Zge,Zgs]
     refine Ze (i:=6) rfl (by kernel_rfl) (λK hK=>?_);obtain⟨y8,D1,u9,r9,u5⟩:=(hF.out.below (hB.trans (c9.mono hB.size))).reads;rw[if_pos (by rfl)];refine Z3 _ (.tmp 24) (.tmp 28) 35 rfl wr.heap.size 41 iF Tryz.underlying35 hi k6 j9 i5 (.slice (some ⟨g7,0,none⟩) 0 0) [] rfl i1 _ _ _ _ y8 rfl D1 u9 r9 (by simp;omega) c9.size ?_;intro O6 G5 f7 n6 L6 I4;rw[QD,u5]at f7;have b3:=c9.grown n6 c9.size (λk hk=>i1.row_ge k hk);have D4:Below w.heap.size w G5:=hB.trans (b3.mono hB.size);have l9:Blk G5 e4 41 #[.bool xn,.slice xA xk xc,.bool xm,.slice xB xj xd]:=(n6.block e4 r3.lt (λe=>by simp[Value.ownBlock]at e;have:=x9.out;omega)).trans r3;refine hK.out _ _ (λ_=>T.out _ D4) ?_;clear hK K
     try simp only[Qb,Zgy,Zge,Zgs]
     refine Ze (i:=12) rfl (by kernel_rfl) (λK hK=>?_);rw[if_pos (by rfl)];obtain⟨zA,zc,h8,n3⟩:=f7.fl;rw[V.out]at h8 n3;subst h8;refine Z3 _ (.tmp 29) (.tmp 34) 35 rfl wr.heap.size 41 iF Tryz.underlying35 hi k6 j9 i5 (.slice zA n zc) _ rfl f7 _ (some ⟨e4,0,none⟩) 1 1 [⟨xn,xA,xk,xc,xm,xB,xj,xd,xs[i]?.getD 0⟩] rfl (Zay _ l9) rfl (by intro e he;rw[Qy]at he;subst he;exact n7.out.below (hB.trans (b3.mono hB.size))) (by rw[V.out];omega) b3.size ?_;intro vQ o5 q7 B7 M5 I2;simp only[Qs,Qu]at q7;have k3:=b3.grown B7 b3.size (λk hk=>f7.row_ge k hk);have C9:Below w.heap.size w o5:=hB.trans (k3.mono hB.size);rcases q7.fown with ⟨-,b5⟩|⟨g2,c2,rfl,g8,a8,i0,m6⟩;simp at b5;have b8:(Q[i]?.getD [] ++ [xs[i]?.getD 0]).length=n+1:=by rw[Qo,V.out];rfl
     rw[b8]at a8 ⊢;refine hK.out _ _ (λ_=>T.out _ C9) ?_;clear hK K
     try simp only[Qb,Zgy,Zge,Zgs]
     obtain⟨Z1,a7⟩:∃ Z,o5.alloc (.cells #[.slice (some ⟨g2,0,none⟩) (n+1) c2] 35)=Z:=⟨_,rfl⟩;obtain⟨gz,b1⟩:∃ g,o5.heap.size=g:=⟨_,rfl⟩;have h3:Below o5.heap.size o5 Z1:=by rw[<- a7];exact(Qc _ _).alloc (Qa _) _
     have o4:Blk Z1 gz 35 #[.slice (some ⟨g2,0,none⟩) (n+1) c2]:=by rw[<- a7,<- b1];exact Qp _ _ _
     have g9:=k3.trans (h3.mono k3.size);have a5:Below w.heap.size w Z1:=hB.trans (g9.mono hB.size);refine Ze (i:=13) rfl (by kernel_rfl) (λK hK=>?_);go_simp;(try rw[a7]);(try rw[b1]);refine hK.out _ _ (λ_=>T.out _ a5) ?_;clear hK K a7 b1
     try simp only[Qb,Zgy,Zge,Zgs]
     have c6:=hM.out.kept g9;have q4:=m6.below h3;have n9:(L.map RF.rs).length+1<=1000:=by rw[Ql];omega
     refine Ze (i:=14) rfl (by kernel_rfl) (λK hK=>?_);rw[if_pos (by rfl)];refine Zag _ (.tmp 23) (.tmp 36) 25 rfl w.heap.size 35 iS Tryz.underlying25 ki z6 z9 y6 _ (L.map RF.rs) rfl c6.1 _ (some ⟨gz,0,none⟩) 1 1 [⟨some ⟨g2,0,none⟩,n+1,c2⟩] rfl (Zkd o4) rfl n9 a5.size ?_;intro v5 w5 p9 h6 r5;have c8:=a5.grown h6 a5.size (λk hk=>c6.1.row_ge k hk);have h7:∀ s ∈ L,s.g≠g2:=λs hs=>by have:=C1.out s hs;omega
     have i2:=Za (c6.snoc t6 (r:=⟨g2,c2,Q[i]?.getD [] ++ [xs[i]?.getD 0]⟩) ⟨q4,by rw[b8];exact a8,i0⟩ (Qn hB.size g8) h7 (by simp only[RF.rs,b8];exact p9) h6 r5);have q5:Hid (L.map RF.q ++ [Q[i]?.getD [] ++ [xs[i]?.getD 0]]=R.take (i+1)):=Za (by rw[hQ.out,Qz,m9.out i u];rfl);refine hK.out _ _ (λ_=>T.out _ c8) ?_;clear hK K
     try simp only[Qb,Zgy,Zge,Zgs]
     refine Zgf 1 [15] rfl (by kernel_rfl) (T.out _ c8) ?_
     (refine tk1 (v:=?_) rfl (Qr ⟨by kernel_rfl,?_⟩) ?_;rotate_left;(· intro W2 _;go_simp;try with_reducible rfl);try simp only[Qb,Zgy,Zge,Zgs,putG_a,putG_s,putG_z])
     refine tk0 ?_;refine Zj (by kernel_rfl) ?_ _;refine Qh ?_;go_wp2_with fail
     go_roundg (n-(i+1))
     case measure=>omega
     case rel=>exact⟨i+1,_,by omega,by go_num,i2.out,Za (by rw[QE];exact q5.out),c8⟩
   ·obtain⟨j6,l4⟩:∃ Y,X0.alloc (.cells #[.bool xn,.slice xA xk xc,.bool xm,.slice xB xj xd] 41)=Y:=⟨_,rfl⟩
    obtain⟨d8,e6⟩:∃ g,X0.heap.size=g:=⟨_,rfl⟩;have z5:Below X0.heap.size X0 j6:=by rw[<- l4];exact(Qc _ _).alloc (Qa _) _
    have q8:Blk j6 d8 41 #[.bool xn,.slice xA xk xc,.bool xm,.slice xB xj xd]:=by rw[<- l4,<- e6];exact Qp _ _ _
    have I0:wr.heap.size<=d8:=by rw[<- e6];exact k7.size
    have f9:=k7.trans (z5.mono k7.size);have y5:Below w.heap.size w j6:=hB.trans (f9.mono hB.size);go_simp;(try rw[l4]);(try rw[e6]);refine hK.out _ _ (λ_=>T.out _ y5) ?_;clear hK K l4 e6
    try simp only[Qb,Zgy,Zge,Zgs]
    refine Ze (i:=1) rfl (by kernel_rfl) (λK hK=>?_);obtain⟨v9,l0⟩:∃ Y,j6.alloc (.cells #[] 41)=Y:=⟨_,rfl⟩;obtain⟨d9,b2⟩:∃ g,j6.heap.size=g:=⟨_,rfl⟩;have p4:Below j6.heap.size j6 v9:=by rw[<- l0];exact(Qc _ _).alloc (Qa _) _
    have A3:Blk v9 d9 41 #[]:=by rw[<- l0,<- b2];exact Qp _ _ _
    have v4:wr.heap.size<=d9:=by rw[<- b2];exact f9.size
    have d0:=f9.trans (p4.mono f9.size);have C8:Below w.heap.size w v9:=hB.trans (d0.mono hB.size);have x9:Hid (d8<d9):=Za (by rw[<- b2];exact q8.lt);have e0:=Zd p4 q8;have p6:OwnF 41 v9 wr.heap.size (.slice (some ⟨d9,0,none⟩) 0 0) []:=⟨[],.inr ⟨d9,0,rfl,v4,Qq _,A3⟩,λe he=>(by cases he),rfl⟩;go_simp;(try rw[l0]);(try rw[b2]);refine hK.out _ _ (λ_=>T.out _ C8) ?_;clear hK K l0 b2
    try simp only[Qb,Zgy,Zge,Zgs]
    refine Ze (i:=6) rfl (by kernel_rfl) (λK hK=>?_);obtain⟨x8,A8,t7,u7,r8⟩:=(hF.out.below (hB.trans (d0.mono hB.size))).reads;rw[if_pos (by rfl)];refine Z3 _ (.tmp 24) (.tmp 28) 35 rfl wr.heap.size 41 iF Tryz.underlying35 hi k6 j9 i5 (.slice (some ⟨d9,0,none⟩) 0 0) [] rfl p6 _ _ _ _ x8 rfl A8 t7 u7 (by simp;omega) d0.size ?_;intro P1 E6 g6 r6 K6 I1;rw[QD,r8]at g6;have b9:=d0.grown r6 d0.size (λk hk=>p6.row_ge k hk);have C6:Below w.heap.size w E6:=hB.trans (b9.mono hB.size);have f5:Blk E6 d8 41 #[.bool xn,.slice xA xk xc,.bool xm,.slice xB xj xd]:=(r6.block d8 e0.lt (λe=>by simp[Value.ownBlock]at e;have:=x9.out;omega)).trans e0;refine hK.out _ _ (λ_=>T.out _ C6) ?_;clear hK K
    try simp only[Qb,Zgy,Zge,Zgs]
    refine Ze (i:=12) rfl (by kernel_rfl) (λK hK=>?_);rw[if_pos (by rfl)];obtain⟨zA,zc,h8,n3⟩:=g6.fl;rw[V.out]at h8 n3;subst h8;refine Z3 _ (.tmp 29) (.tmp 34) 35 rfl wr.heap.size 41 iF Tryz.underlying35 hi k6 j9 i5 (.slice zA n zc) _ rfl g6 _ (some ⟨d8,0,none⟩) 1 1 [⟨xn,xA,xk,xc,xm,xB,xj,xd,xs[i]?.getD 0⟩] rfl (Zay _ f5) rfl (by intro e he;rw[Qy]at he;subst he;exact n7.out.below (hB.trans (b9.mono hB.size))) (by rw[V.out];omega) b9.size ?_;intro vQ r1 q9 C5 K3 I3;simp only[Qs,Qu]at q9;have k8:=b9.grown C5 b9.size (λk hk=>g6.row_ge k hk);have B6:Below w.heap.size w r1:=hB.trans (k8.mono hB.size);rcases q9.fown with ⟨-,b5⟩|⟨g2,c2,rfl,g8,a8,i0,m6⟩;simp at b5;have b8:(Q[i]?.getD [] ++ [xs[i]?.getD 0]).length=n+1:=by rw[Qo,V.out];rfl
    rw[b8]at a8 ⊢;refine hK.out _ _ (λ_=>T.out _ B6) ?_;clear hK K
    try simp only[Qb,Zgy,Zge,Zgs]
    obtain⟨Z1,a7⟩:∃ Z,r1.alloc (.cells #[.slice (some ⟨g2,0,none⟩) (n+1) c2] 35)=Z:=⟨_,rfl⟩;obtain⟨gz,b1⟩:∃ g,r1.heap.size=g:=⟨_,rfl⟩;have h3:Below r1.heap.size r1 Z1:=by rw[<- a7];exact(Qc _ _).alloc (Qa _) _
    have o4:Blk Z1 gz 35 #[.slice (some ⟨g2,0,none⟩) (n+1) c2]:=by rw[<- a7,<- b1];exact Qp _ _ _
    have g9:=k8.trans (h3.mono k8.size);have a5:Below w.heap.size w Z1:=hB.trans (g9.mono hB.size);refine Ze (i:=13) rfl (by kernel_rfl) (λK hK=>?_);go_simp;(try rw[a7]);(try rw[b1]);refine hK.out _ _ (λ_=>T.out _ a5) ?_;clear hK K a7 b1
    try simp only[Qb,Zgy,Zge,Zgs]
    have c6:=hM.out.kept g9;have q4:=m6.below h3;have n9:(L.map RF.rs).length+1<=1000:=by rw[Ql];omega
    refine Ze (i:=14) rfl (by kernel_rfl) (λK hK=>?_);rw[if_pos (by rfl)];refine Zag _ (.tmp 23) (.tmp 36) 25 rfl w.heap.size 35 iS Tryz.underlying25 ki z6 z9 y6 _ (L.map RF.rs) rfl c6.1 _ (some ⟨gz,0,none⟩) 1 1 [⟨some ⟨g2,0,none⟩,n+1,c2⟩] rfl (Zkd o4) rfl n9 a5.size ?_;intro v5 w5 p9 h6 r5;have c8:=a5.grown h6 a5.size (λk hk=>c6.1.row_ge k hk);have h7:∀ s ∈ L,s.g≠g2:=λs hs=>by have:=C1.out s hs;omega
    have i2:=Za (c6.snoc t6 (r:=⟨g2,c2,Q[i]?.getD [] ++ [xs[i]?.getD 0]⟩) ⟨q4,by rw[b8];exact a8,i0⟩ (Qn hB.size g8) h7 (by simp only[RF.rs,b8];exact p9) h6 r5);have q5:Hid (L.map RF.q ++ [Q[i]?.getD [] ++ [xs[i]?.getD 0]]=R.take (i+1)):=Za (by rw[hQ.out,Qz,m9.out i u];rfl);refine hK.out _ _ (λ_=>T.out _ c8) ?_;clear hK K
    try simp only[Qb,Zgy,Zge,Zgs]
    refine Zgf 1 [15] rfl (by kernel_rfl) (T.out _ c8) ?_
    (refine tk1 (v:=?_) rfl (Qr ⟨by kernel_rfl,?_⟩) ?_;rotate_left;(· intro W2 _;go_simp;try with_reducible rfl);try simp only[Qb,Zgy,Zge,Zgs,putG_a,putG_s,putG_z])
    refine tk0 ?_;refine Zj (by kernel_rfl) ?_ _;refine Qh ?_;go_wp2_with fail
    go_roundg (n-(i+1))
    case measure=>omega
    case rel=>exact⟨i+1,_,by omega,by go_num,i2.out,Za (by rw[QE];exact q5.out),c8⟩
  | zero =>
   obtain rfl:n=i:=by omega
   have t1:decide ((n:Int)<(n:Int))=false:=by simp
   have F0:L.map RF.q=R:=by rw[hQ.out];exact List.take_of_length_le (by rw[s8.out];exact Qa _)
   obtain⟨go,cap,rfl,J2,K7,Q7,j3,i3⟩:=hM.mat t6 (λe=>by rw[e]at i6;simp at i6;omega);rw[i6]at J2;simp only[i6];unfold maxLen at K7
   have M2:Hid (∀ k,k ∈ L.map RF.g->w.heap.size<=k):=Za (λk hk=>by
    obtain⟨r,hr,rfl⟩:=List.mem_map.1 hk;exact i3 r hr)
   have O3:Hid (go ∉ L.map RF.g):=Za (List.nodup_cons.1 j3.2.2).1;obtain⟨w1,rfl⟩:∃ x:World,x=wr:=⟨_,rfl⟩;have L9:Hid (∀ k,k ∈ L.map RF.g->∃ t cs,Blk w1 k t cs/\NoLimb cs):=Za (λk hk=>j3.boxes k (.inr hk));have O9:Hid (go<w1.heap.size):=Za (by obtain⟨t,cs,hb,-⟩:=j3.boxes go (.inl rfl);exact hb.lt);have F1:=Za F0;replace j3:=Za j3;replace i6:=Za i6;replace hB:=Za hB;clear hM hQ F0 i3;go_wp2_with fail
   go_loopg [9] n (λk iv wr=>∃ (p:Nat) (L1:List RF),p+k=n/\iv=.int .i64 p/\MatB 35 41 wr go L1/\Hid (L1.length=n)/\Hid (L1.map RF.g=L.map RF.g)/\Hid (L1.map RF.c=L.map RF.c)/\Hid (L1.map RF.q=Zgb R p)/\Hid (posP AR p)/\Kept (λg=>g ∈ L.map RF.g) w1 wr)
   case atStart=>exact⟨0,L,by omega,rfl,j3.out,i6,Za rfl,Za rfl,Za F1.out,Za (λt ht=>by omega),QF _ _⟩
   case round =>
    clear j3;obtain⟨wp_,rfl⟩:∃ x:World,x=wr:=⟨_,rfl⟩;obtain⟨p,L1,P9,rfl,hM,g4,M1,G8,B3,a6,hK⟩:=hrel;have r4:Hid (Below w.heap.size w wp_):=Za (hB.out.trans (hK.to_below M2.out hB.out.size))
    have hE:Hid (∀ i k,i<n->min p i<=k->(Zbi L1 i)[k]?.getD 0=Zai AR p i k):=Za (λi k hi hk=>by
     rw[<- Zdf,B3.out,<- v8.out];exact Zez s8.out m8.out p (by omega) i k hi hk)
    have b0:Hid (∀ i,i<n->(Zbi L1 i).length=n+1):=Za (λi hi=>by
     rw[Zmz,B3.out];exact Zj8 m8.out p i (by rw[s8.out];exact hi))
    cases gk with
    | zero =>
     obtain rfl:n=p:=by omega
     have t2:decide ((n:Int)<(n:Int))=false:=by simp
     have J6:Hid (∀ i k,i<n->i<=k->(Zbi L1 i)[k]?.getD 0=Zai AR i i k):=Za (λi k hi hk=>by rw[hE.out i k hi (by omega),Zl2 (by omega)]);have U:=hX.out a6.out;obtain⟨E,l8⟩:∃ E:Nat->Nat->Rat,(λi j=>Zai AR i i j)=E:=⟨_,rfl⟩;rw[l8]at U;have x7:Hid (∀ i k,i<n->i<=k->(Zbi L1 i)[k]?.getD 0=E i k):=Za (λi k hi hk=>by rw[J6.out i k hi hk,<- l8]);have x6:Hid (∀ i k,i<n->SmN 380 380 (E i k)):=Za (λi k hi=>by rw[<- l8];exact hs.out i i k (by omega) (a6.out.mono (by omega)) hi);have N2:Hid (∀ i,i<n->E i i≠0):=Za (λi hi=>by rw[<- l8];exact a6.out.ne hi);obtain⟨e1,e2,e3⟩:=U;replace e1:=Za e1;replace e2:=Za e2;replace e3:=Za e3;replace l8:=Za l8;have J8:=Zsz (P:=Tryz.prog) 35 41 Tryz.underlying35 hi k6 j9 i5 (n:Int) n rfl (by omega) wp_;obtain⟨gO,p8⟩:∃ g,wp_.heap.size=g:=⟨_,rfl⟩;obtain⟨X2,D5,D2,-,-,-,sX⟩:=Zt 41 (Zz (Qj n Zau)) (Qc wp_.heap.size wp_) (Qa _);have hO:FTail 41 X2 gO n n (λi=>X i n):=by rw[<- D5,<- p8];exact FTail.new _ _ _ _
     have l6:=Za (hM.below D2);have H4:Hid (Below w.heap.size w X2):=Za (r4.out.trans (D2.mono r4.out.size));have F5:Hid (w.heap.size<=gO):=Za (by rw[<- p8];exact r4.out.size)
     have E8:Hid (go≠gO):=Za (by
      obtain⟨t,cs,hb,-⟩:=hM.boxes go (.inl rfl);have:=hb.lt;omega)
     have D9:Hid (∀ r ∈ L1,r.g≠gO):=Za (λr hr=>by
      obtain⟨t,cs,hb,-⟩:=hM.boxes r.g (.inr (List.mem_map.2 ⟨r,hr,rfl⟩));have:=hb.lt;omega)
     have P5:Hid (∃ t cs,Blk X2 gO t cs/\NoLimb cs):=Za hO.raw.box;have M0:IntKind.i64.wrap ((n:Int)-1)=(n:Int)-1:=by rw[IntKind.wrap_i64];omega
     replace hO:=Za hO;replace hK:=Za hK;clear hM D2 sX;go_wp2_with fail;(try rw[D5]);(try rw[p8]);clear J8 D5;replace p8:=Za p8
     go_loopg [14] n (λk iv wr=>iv=.int .i64 ((k:Int)-1)/\k<=n/\MatB 35 41 wr go L1/\FTail 41 wr gO n k (λi=>X i n)/\Kept (λg=>g=gO) X2 wr)
     case atStart=>exact⟨by go_num,Qa _,l6.out,hO.out,QF _ _⟩
     case round =>
      clear l6 hO M0;obtain⟨i7,rfl⟩:∃ x:World,x=wr:=⟨_,rfl⟩;obtain⟨rfl,R0,hM,hO,b6⟩:=hrel;cases gk with
      | zero =>
       have t3:decide ((0:Int)<=((0:Nat):Int)-1)=false:=by decide
       have D8:decide ((0:Int) <= -1)=false:=by decide
       have J4:=Za (hO.fl (by unfold maxLen;omega));have N4:Hid (Below w.heap.size w i7):=Za (H4.out.trans (b6.to_below (λk e=>by have:=F5.out;omega) H4.out.size));have a0:=a6;replace hM:=Za hM;replace b6:=Za b6;replace hO:=Za hO;go_wp2_with fail;go_returns;exact⟨N4.out,.inl ⟨a0.out,_,_,rfl,J4.out⟩⟩
      | succ i =>
       have e9:((i+1:Nat):Int)-1=(i:Int):=by omega
       rw[e9];have u:i<n:=by omega
       have t3:decide ((0:Int)<=(i:Int))=true:=decide_eq_true (by omega);have bi:(i:Int)<(n:Int):=by omega
       have bnn:(n:Int)<((n+1:Nat):Int):=by omega
       have O2:(n:Int)<(n:Int)+1:=by omega
       obtain⟨ri,O⟩:=Zal (L:=L1) (i:=i) (by rw[g4.out];exact u);have d3:ri.q=Zbi L1 i:=(Zcl O).symm;have e5:ri.q.length=n+1:=by rw[d3];exact b0.out i u
       obtain⟨ci,zi⟩:=hM.cell O;obtain⟨fi,x4,z8⟩:=hM.row O;rw[e5]at ci x4;unfold maxLen at z8;obtain⟨xn,xA,xk,xc,xm,xB,xj,xd,p0,p1,p2,p3,a2⟩:=fi.at_ (i:=n) (by rw[e5];omega);rw[d3,x7.out i n u (by omega)]at a2;obtain⟨V1,N9,n0,a1,s1⟩:=Zax i7 41 #[.bool false,.slice none 0 0,.bool false,.slice none 0 0];obtain⟨gs,i3⟩:∃ g,i7.heap.size=g:=⟨_,rfl⟩;rw[i3]at a1 s1;obtain⟨u0,u1,u2,u3,v0,v1,v2,v3⟩:=a1.four;obtain⟨W4,F3,a4,F6,s4⟩:=Zbs xn xA xk xc xm xB xj xd a1;have j8:Below i7.heap.size i7 W4:=n0.trans (F6.to_below (λk e=>by omega) n0.size);have I9:Hid (W4.heap.size=gs+1):=Za (by rw[s4,s1]);have F9:=Za (a2.below j8);have Q9:=Za (hM.below j8);have Q8:=Za (hO.below j8);have O0:Hid (Kept (λg=>g=gO) X2 W4):=Za (b6.below j8);have M3:Hid (upS E X i n (i+1)=E i n):=Za (Zmx _ _ _ _ _ (Qa _));have M9:IntKind.i64.wrap ((i:Int)+1)=((i+1:Nat):Int):=by rw[IntKind.wrap_i64];omega
       have O8:IntKind.i64.wrap ((i:Int)-1)=(i:Int)-1:=by rw[IntKind.wrap_i64];omega
       have P0:Hid (gO<gs):=Za (by have:=hO.raw.lt;omega);replace j8:=Za j8;replace a4:=Za a4;replace hM:=Za hM;replace hO:=Za hO;replace b6:=Za b6;clear a2 n0 F6 s1 s4 fi d3;go_wp2_with fail;(try rw[i3]);(try rw[F3]);clear u0 u1 u2 u3 v0 v1 v2 v3 a1 N9 F3 p0 p1 p2 p3 ci zi;replace i3:=Za i3
       go_loopg [16] (n-(i+1)) (λk kv wr=>∃ (t:Nat) (sn:Bool) (sA:Option Addr) (sk sc:Nat) (sm:Bool) (sB:Option Addr) (sj sd:Nat),t+k=n/\kv=.int .i64 t/\i+1<=t/\Blk wr gs 41 #[.bool sn,.slice sA sk sc,.bool sm,.slice sB sj sd]/\Hid (Fr wr sn sA sk sc sm sB sj sd (upS E X i n t))/\Kept (λg=>g=gs) W4 wr)
       case atStart=>exact⟨i+1,_,_,_,_,_,_,_,_,by omega,by go_num,Qa _,a4.out,Za (by rw[M3.out];exact F9.out),QF _ _⟩
       case round =>
        clear a4 F9 M9;obtain⟨wj,rfl⟩:∃ x:World,x=wr:=⟨_,rfl⟩;obtain⟨t,sn,sA,sk,sc,sm,sB,sj,sd,R1,rfl,N3,G9,H6,E1⟩:=hrel;have O5:=I9.out;have P2:=i3.out;have s9:Hid (Below i7.heap.size i7 wj):=Za (j8.out.trans (E1.to_below (λk e=>by omega) (by omega)));have m0:=hM.out.below s9.out;have d7:=hO.out.below s9.out;obtain⟨ci,zi⟩:=m0.cell O;obtain⟨fi,-,-⟩:=m0.row O;rw[e5]at ci;have d3:ri.q=Zbi L1 i:=(Zcl O).symm;obtain⟨s0,s1,s2,s3,y0,y1,y2,y3⟩:=G9.four;cases gk with
        | succ k' =>
         obtain rfl:k'=n-(t+1):=by omega
         have K1:t<n:=by omega
         have t4:decide ((t:Int)<(n:Int))=true:=decide_eq_true (by omega);have bt:(t:Int)<(n:Int):=by omega
         have P8:(t:Int)<((n+1:Nat):Int):=by omega
         have Q0:(t:Int)<(n:Int)+1:=by omega
         obtain⟨an,aA,ak,ac,am,aB,aj,ad,p0,p1,p2,p3,p5⟩:=fi.at_ (i:=t) (by rw[e5];omega);rw[d3,x7.out i t u (by omega)]at p5;obtain⟨on_,oA,ok,oc,om,oB,oj,od,o0,o1,o2,o3,N0⟩:=d7.at_ (j:=t) N3 K1;have sa:=(x6.out i t u).sm (i:=380) (by decide) (by decide);have sx:=(e2.out t).sm (i:=300) (by decide) (by decide);have sp:Sm (E i t*X t n):=((x6.out i t u).mulN (e2.out t)).sm (by decide) (by decide);have su:=(e3.out i t).sm (i:=400) (by decide) (by decide);clear fi m0 d7;go_wp2_with fail;obtain⟨X0,U⟩:∃ X,wj.drew=X:=⟨_,rfl⟩;have I:Below wj.heap.size wj X0:=by rw[<- U];exact Zf (Qc _ _) 1
         have C:Hid (∀ wx,Below wj.heap.size wj wx->wx.cell? ⟨gs,0,none⟩=some (.bool sn)/\wx.cell? ⟨gs,1,none⟩=some (.slice sA sk sc)/\wx.cell? ⟨gs,2,none⟩=some (.bool sm)/\wx.cell? ⟨gs,3,none⟩=some (.slice sB sj sd)/\wx.cell? ⟨go,i,none⟩=some (.slice (some ⟨ri.g,0,none⟩) (n+1) ri.c)/\wx.cell? ⟨ri.g,t*4,none⟩=some (.bool an)/\wx.cell? ⟨ri.g,t*4+1,none⟩=some (.slice aA ak ac)/\wx.cell? ⟨ri.g,t*4+2,none⟩=some (.bool am)/\wx.cell? ⟨ri.g,t*4+3,none⟩=some (.slice aB aj ad)/\wx.cell? ⟨gO,t*4,none⟩=some (.bool on_)/\wx.cell? ⟨gO,t*4+1,none⟩=some (.slice oA ok oc)/\wx.cell? ⟨gO,t*4+2,none⟩=some (.bool om)/\wx.cell? ⟨gO,t*4+3,none⟩=some (.slice oB oj od)):=Za (λwx f=>⟨Zb f s0,Zb f s1,Zb f s2,Zb f s3,Zb f ci,Zb f p0,Zb f p1,Zb f p2,Zb f p3,Zb f o0,Zb f o1,Zb f o2,Zb f o3⟩);refine wp_heldS [14] hmx C (by rw[U];exact I) (λhxs=>?_);rw[U];refine Zje 12 [0,1,2,3,4,5,6,7,8,9,10,11] rfl (by kernel_rfl) (C.out _ I) ?_
         iterate 12 (refine tk1 (v:=?_) rfl (Qr ⟨by kernel_rfl,?_⟩) ?_;rotate_left;(· intro W2 hSw;(try dsimp only at hSw);go_simp;try with_reducible rfl);try simp only[Qb,Zgy,Zge,Zgs,putG_a,putG_s,putG_z])
         refine tk0 ?_;refine Ze (i:=12) rfl (by kernel_rfl) (λK hK=>?_);go_simp;refine(Zho an aA ak ac am aB aj ad on_ oA ok oc om oB oj od _ _ X0 (p5.below I) (N0.below I) sa sx).mono ?_;rintro e i8 ⟨i4,yn,yA,yk,yc,ym,yB,yj,yd,rfl,hy⟩;have y:=I.trans (i4.mono I.size);refine hK.out _ _ (λ_=>C.out _ y) ?_;clear hK K
         try simp only[Qb,Zgy,Zge,Zgs]
         refine Ze (i:=13) rfl (by kernel_rfl) (λK hK=>?_);go_simp;refine(Zk2 sn sA sk sc sm sB sj sd yn yA yk yc ym yB yj yd _ _ i8 (H6.out.below y) hy su sp).mono ?_;rintro e H2 ⟨m3,zn,zA,zk,zc,zm,zB,zj,zd,rfl,hz⟩;have J:=y.trans (m3.mono y.size);refine hK.out _ _ (λ_=>C.out _ J) ?_;clear hK K
         try simp only[Qb,Zgy,Zge,Zgs]
         have u4:=Zd J G9;obtain⟨f0,f1,f2,f3,N7,I7,L3,N6⟩:=u4.four;obtain⟨W7,G7,p7,D6,s7⟩:=Zbs zn zA zk zc zm zB zj zd u4;have J0:=Za (hz.keptN D6 u4 (Zcf _ _ _ _ _ _ _ _));have K0:Hid (Kept (λg=>g=gs) W4 W7):=Za ((E1.below J).trans D6);replace p7:=Za p7;clear D6 hz hy;refine Zm (i:=14) rfl (by kernel_rfl) (by kernel_rfl) (λK hK=>?_);go_simp;(try rw[G7]);refine hK.out _ _ ?_;clear hK K
         try simp only[Qb,Zgy,Zge,Zgs]
         refine Zj (by kernel_rfl) ?_ _;refine Qh ?_;clear G7 f0 f1 f2 f3 N7 I7 L3 N6 u4 C hxs I J U s0 s1 s2 s3 p0 p1 p2 p3 o0 o1 o2 o3;have J5:Hid (Fr W7 zn zA zk zc zm zB zj zd (upS E X i n (t+1))):=Za (by rw[Zlh _ _ (by omega)];exact J0.out);go_wp2_with fail
         go_roundg (n-(t+1))
         case measure=>omega
         case rel=>exact⟨t+1,_,_,_,_,_,_,_,_,by omega,by go_num,by omega,p7.out,J5,K0.out⟩
        | zero =>
         obtain rfl:n=t:=by omega
         have t4:decide ((n:Int)<(n:Int))=false:=by simp
         have R4:(i:Int)<((n+1:Nat):Int):=by omega
         have R5:(i:Int)<(n:Int)+1:=by omega
         obtain⟨an,aA,ak,ac,am,aB,aj,ad,p0,p1,p2,p3,p5⟩:=fi.at_ (i:=i) (by rw[e5];omega);rw[d3,x7.out i i u (by omega)]at p5;obtain⟨on_,oA,ok,oc,om,oB,oj,od,o0,o1,o2,o3⟩:=d7.raw.cells u;have E9:=d7.raw.frozen (i*4);have G2:=d7.raw.frozen (i*4+1);have H1:=d7.raw.frozen (i*4+2);have F4:=d7.raw.frozen (i*4+3);have sa:=(x6.out i i u).sm (i:=380) (by decide) (by decide);have su:=(e3.out i n).sm (i:=400) (by decide) (by decide);replace m0:=Za m0;replace d7:=Za d7;clear fi;go_wp2_with fail;obtain⟨X0,U⟩:∃ X,wj.drew=X:=⟨_,rfl⟩;have I:Below wj.heap.size wj X0:=by rw[<- U];exact Zf (Qc _ _) 1
         have C:Hid (∀ wx,Below wj.heap.size wj wx->wx.cell? ⟨gs,0,none⟩=some (.bool sn)/\wx.cell? ⟨gs,1,none⟩=some (.slice sA sk sc)/\wx.cell? ⟨gs,2,none⟩=some (.bool sm)/\wx.cell? ⟨gs,3,none⟩=some (.slice sB sj sd)/\wx.cell? ⟨go,i,none⟩=some (.slice (some ⟨ri.g,0,none⟩) (n+1) ri.c)/\wx.cell? ⟨ri.g,i*4,none⟩=some (.bool an)/\wx.cell? ⟨ri.g,i*4+1,none⟩=some (.slice aA ak ac)/\wx.cell? ⟨ri.g,i*4+2,none⟩=some (.bool am)/\wx.cell? ⟨ri.g,i*4+3,none⟩=some (.slice aB aj ad)):=Za (λwx f=>⟨Zb f s0,Zb f s1,Zb f s2,Zb f s3,Zb f ci,Zb f p0,Zb f p1,Zb f p2,Zb f p3⟩);refine wp_heldS [12] hmx C (by rw[U];exact I) (λhxs=>?_);rw[U];refine Zje 10 [0,1,2,3,4,5,6,7,8,9] rfl (by kernel_rfl) (C.out _ I) ?_
         iterate 10 (refine tk1 (v:=?_) rfl (Qr ⟨by kernel_rfl,?_⟩) ?_;rotate_left;(· intro W2 hSw;(try dsimp only at hSw);go_simp;try with_reducible rfl);try simp only[Qb,Zgy,Zge,Zgs,putG_a,putG_s,putG_z])
         refine tk0 ?_;refine Ze (i:=10) rfl (by kernel_rfl) (λK hK=>?_);go_simp;refine(Zlj sn sA sk sc sm sB sj sd an aA ak ac am aB aj ad _ _ X0 (H6.out.below I) (p5.below I) su sa (N2.out i u)).mono ?_;rintro e i8 ⟨i4,zn,zA,zk,zc,zm,zB,zj,zd,rfl,hz⟩;have y:=I.trans (i4.mono I.size);refine hK.out _ _ (λ_=>C.out _ y) ?_;clear hK K
         try simp only[Qb,Zgy,Zge,Zgs]
         refine Zgf 1 [11] rfl (by kernel_rfl) (C.out _ y) ?_
         (refine tk1 (v:=?_) rfl (Qr ⟨by kernel_rfl,?_⟩) ?_;rotate_left;(· intro W2 _;go_simp;try with_reducible rfl);try simp only[Qb,Zgy,Zge,Zgs,putG_a,putG_s,putG_z])
         refine tk0 ?_;have z7:=d7.out.below y;have D7:=m0.out.below y;have M4:Hid (upS E X i n n/E i i=X i n):=Za (e1.out i u).symm;rw[M4.out]at hz;obtain⟨Z9,f6⟩:∃ W,Zel i8 gO i zn zA zk zc zm zB zj zd=W:=⟨_,rfl⟩;have b4:=f6;unfold Zel at b4;have y9:Kept (λg=>g=gO) i8 Z9:=by rw[<- f6];exact Zh6 (QF _ _) (.inl rfl)
         have I8:Hid (FTail 41 Z9 gO n i (λi=>X i n)):=Za (by rw[<- f6];exact z7.set_ u hz);have M7:∀ k,k=gO->∃ t cs,Blk i8 k t cs/\NoLimb cs:=λk hk=>by rw[hk];exact z7.raw.box
         have A9:Hid (MatB 35 41 Z9 go L1):=Za (D7.keptG y9 E8.out (λr hr=>D9.out r hr) M7);have D3:Hid (Kept (λg=>g=gO) X2 Z9):=Za ((b6.out.below (s9.out.trans (y.mono s9.out.size))).trans y9);have f0:=Zk y o0 E9;have f1:=Zk y o1 G2;have f2:=Zk y o2 H1;have f3:=Zk y o3 F4;have g0:=Zb y o0;have g1:=Zb y o1;have g2:=Zb y o2;have g3:=Zb y o3;clear z7 D7 f6 y9 hz;refine Zm (i:=12) rfl (by kernel_rfl) (by kernel_rfl) (λK hK=>?_);go_simp;(try rw[b4]);refine hK.out _ _ ?_;clear hK K
         try simp only[Qb,Zgy,Zge,Zgs]
         refine Zj (by kernel_rfl) ?_ _;refine Qh ?_;clear b4 f0 f1 f2 f3 g0 g1 g2 g3 y I C hxs U s0 s1 s2 s3 p0 p1 p2 p3 o0 o1 o2 o3 E9 G2 H1 F4;go_wp2_with fail
         go_roundg i
         case measure=>omega
         case rel=>exact⟨by go_num,by omega,A9.out,I8.out,D3.out⟩
    | succ j =>
     obtain rfl:j=n-(p+1):=by omega
     have a0:p<n:=by omega
     have t2:decide ((p:Int)<(n:Int))=true:=decide_eq_true (by omega);have bp:(p:Int)<(n:Int):=by omega
     have P6:(p:Int)<(n:Int)+1:=by omega
     have bpn:(p:Int)<((n+1:Nat):Int):=by omega
     obtain⟨rp,B9⟩:=Zal (L:=L1) (i:=p) (by rw[g4.out];exact a0);have r0:rp.q=Zbi L1 p:=(Zcl B9).symm;have o9:rp.q.length=n+1:=by rw[r0];exact b0.out p a0
     obtain⟨cp,zp⟩:=hM.cell B9;obtain⟨fp,N8,J1⟩:=hM.row B9;rw[o9]at cp N8;unfold maxLen at J1;obtain⟨n1,A1,k1,c1,m1,B1,j1,d1,p0,p1,p2,p3,a2⟩:=fp.at_ (i:=p) (by rw[o9];omega);rw[r0,hE.out p p a0 (by omega)]at a2;have t8:Hid (Zai AR p p p=dQ AR p):=Za rfl;have a3:=a2.pos_iff;have Q2:IntKind.i64.wrap ((p:Int)+1)=((p+1:Nat):Int):=by rw[IntKind.wrap_i64];omega
     cases n1
     case true =>
      have C3:Hid (¬ posP AR n):=Za (λh=>by have:=a3.2 (by rw[t8.out];exact h p a0);simp at this);replace hM:=Za hM;replace hK:=Za hK;replace a3:=Za a3;clear fp r0 o9 a2;go_wp2_with fail;go_returns;exact⟨r4.out,.inr ⟨C3.out,rfl⟩⟩
     by_cases h5:k1=0
     case pos =>
      have C3:Hid (¬ posP AR n):=Za (λh=>(a3.2 (by rw[t8.out];exact h p a0)).2 h5);have t3:((k1:Int) == 0)=true:=by simp[h5]
      have D8:decide (k1=0)=true:=by simpa using h5
      replace hM:=Za hM;replace hK:=Za hK;replace a3:=Za a3;have w6:=a2.1.2.1;subst h5;clear fp r0 o9 a2;go_wp2_with fail;go_returns;exact⟨r4.out,.inr ⟨C3.out,rfl⟩⟩
     have i9:Hid (posP AR (p+1)):=Za (λt ht=>by
      rcases Nat.lt_or_ge t p with h1|h1;exact a6.out t h1
      ·rw[show t=p by omega];exact(by rw[<- t8.out];exact a3.1 ⟨rfl,h5⟩))
     have t3:((k1:Int) == 0)=false:=by simp;omega
     have D8:decide (k1=0)=false:=by simpa using h5
     have w6:=a2.1.2.1;replace hM:=Za hM;replace hK:=Za hK;replace a3:=Za a3;replace h5:=Za h5;clear fp r0 o9 a2;go_wp2_with fail
     go_loopg [10] (n-(p+1)) (λk iv wr=>∃ (i:Nat) (L2:List RF),i+k=n/\iv=.int .i64 i/\p+1<=i/\MatB 35 41 wr go L2/\Hid (L2.length=n)/\Hid (L2.map RF.g=L.map RF.g)/\Hid (L2.map RF.c=L.map RF.c)/\Hid (ClrTo L1 L2 p p i)/\Kept (λg=>g ∈ L.map RF.g) w1 wr)
     case atStart=>exact⟨p+1,L1,by omega,by go_num,Qa _,hM.out,g4,M1,G8,Za (λj hj=>by by_cases h1:j<=p \/ p+1<=j;rw[if_pos h1];exact absurd h1 (by omega)),hK.out⟩
     case round =>
      clear hM hK cp zp p0 p1 p2 p3 w6;obtain⟨wi,rfl⟩:∃ x:World,x=wr:=⟨_,rfl⟩;obtain⟨i,L2,M8,rfl,P4,hM,d6,m7,w3,v6,hK⟩:=hrel;cases gk with
      | zero =>
       obtain rfl:n=i:=by omega
       have t4:decide ((n:Int)<(n:Int))=false:=by simp
       have hfin:Hid (L2.map RF.q=Zgb R (p+1)):=Za (by
        rw[ClrTo.done (by rw[g4.out];exact v6.out) (by rw[d6.out,g4.out]),B3.out];rfl)
       replace hM:=Za hM;replace hK:=Za hK;go_wp2_with fail
       go_roundg (n-(p+1))
       case measure=>omega
       case rel=>exact⟨p+1,L2,by omega,by go_num,hM.out,d6,m7,w3,hfin,i9,hK.out⟩
      | succ j =>
       obtain rfl:j=n-(i+1):=by omega
       have u:i<n:=by omega
       have t4:decide ((i:Int)<(n:Int))=true:=decide_eq_true (by omega);have bi:(i:Int)<(n:Int):=by omega
       obtain⟨ri,O⟩:=Zal (L:=L2) (i:=i) (by rw[d6.out];exact u);obtain⟨r2,j0⟩:=Zal (L:=L2) (i:=p) (by rw[d6.out];exact a0)
       have d3:ri.q=Zbi L1 i:=by
        have:=v6.out i (by rw[g4.out];exact u);rw[Zcl O,if_pos (Or.inr (Qa i))]at this;exact this
       have z3:r2.q=Zbi L1 p:=by
        have:=v6.out p (by rw[g4.out];exact a0);rw[Zcl j0,if_pos (Qr (Qa p))]at this;exact this
       have e5:ri.q.length=n+1:=by rw[d3];exact b0.out i u
       have u8:r2.q.length=n+1:=by rw[z3];exact b0.out p a0
       obtain⟨ci,zi⟩:=hM.cell O;obtain⟨cr,zr⟩:=hM.cell j0;obtain⟨fi,x4,z8⟩:=hM.row O;obtain⟨fr,J7,I5⟩:=hM.row j0;rw[e5]at ci x4;rw[u8]at cr J7;unfold maxLen at z8 I5;have O7:=hM.ne2 O j0 (by omega);obtain⟨n1,A1,k1,c1,m1,B1,j1,d1,p0,p1,p2,p3,a2⟩:=fi.at_ (i:=p) (by rw[e5];omega);obtain⟨n2,A2,k2,c2,m2,B2,j2,d2,q0,q1,q2,q3,A7⟩:=fr.at_ (i:=p) (by rw[u8];omega);rw[d3,hE.out i p u (by omega)]at a2;rw[z3,hE.out p p a0 (by omega)]at A7;obtain⟨by_,q6⟩:∃ q:Rat,Zai AR p i p/Zai AR p p p=q:=⟨_,rfl⟩;have w4:Hid (SmN 300 300 by_):=Za (by rw[<- q6];exact hl.out i p (by omega) u i9.out);have s5:=(hs.out p i p (by omega) a6.out u).sm (i:=380) (by decide) (by decide);have t9:=(hs.out p p p (by omega) a6.out a0).sm (i:=380) (by decide) (by decide);have G3:Hid (Zai AR p p p≠0):=Za (λh=>by have:=i9.out p (by omega);rw[<- t8.out,h]at this;exact absurd this (by decide));replace q6:=Za q6;have R2:=Za fi;have Q3:=Za fr;clear fi fr;replace hM:=Za hM;replace hK:=Za hK;go_wp2_with fail
       have C:Hid (∀ wx,Below wi.heap.size wi wx->wx.cell? ⟨go,i,none⟩=some (.slice (some ⟨ri.g,0,none⟩) (n+1) ri.c)/\wx.cell? ⟨go,p,none⟩=some (.slice (some ⟨r2.g,0,none⟩) (n+1) r2.c)/\wx.cell? ⟨ri.g,p*4,none⟩=some (.bool n1)/\wx.cell? ⟨ri.g,p*4+1,none⟩=some (.slice A1 k1 c1)/\wx.cell? ⟨ri.g,p*4+2,none⟩=some (.bool m1)/\wx.cell? ⟨ri.g,p*4+3,none⟩=some (.slice B1 j1 d1)/\wx.cell? ⟨r2.g,p*4,none⟩=some (.bool n2)/\wx.cell? ⟨r2.g,p*4+1,none⟩=some (.slice A2 k2 c2)/\wx.cell? ⟨r2.g,p*4+2,none⟩=some (.bool m2)/\wx.cell? ⟨r2.g,p*4+3,none⟩=some (.slice B2 j2 d2)):=Za (λwx f=>⟨Zb f ci,Zb f cr,Zb f p0,Zb f p1,Zb f p2,Zb f p3,Zb f q0,Zb f q1,Zb f q2,Zb f q3⟩);have I:Below wi.heap.size wi wi.drew:=Zf (Qc _ _) 1;refine wp_heldS [] hmx C I (λhxs1=>?_);refine Zje 14 [0,1,2,3,4,5,6,7,8,9,10,11,12,13] rfl (by kernel_rfl) (C.out _ I) ?_
       iterate 14 (refine tk1 (v:=?_) rfl (Qr ⟨by kernel_rfl,?_⟩) ?_;rotate_left;(· intro W2 hSw;(try dsimp only at hSw);go_simp;try with_reducible rfl);try simp only[Qb,Zgy,Zge,Zgs,putG_a,putG_s,putG_z])
       refine tk0 ?_;refine Za1 [(14,88),(15,11)] (λ_=>[]) [(14,88),(15,11)] (Zl1 wi.heap.size (Zai AR p i p/Zai AR p p p) 14 15) 1 (by kernel_rfl) (λ_ _ _ _ _ hb h=>Zrp hb h) (λwx h=>C.out _ (I.trans (h.mono I.size))) ?hop1 ?hfin1
       case hop1 =>
        intro p hp;simp only[List.mem_cons,List.not_mem_nil,or_false]at hp;simp only[Qs,Qu,Zam,Qb,Zgy,Zge,Zgs];rcases hp with rfl|rfl
        ·intro ν wx hb hP
         have f:=I.trans (hb.mono I.size);refine Zn (i:=14) rfl (λK hK=>?_);go_simp;refine(Zlj n1 A1 k1 c1 m1 B1 j1 d1 n2 A2 k2 c2 m2 B2 j2 d2 _ _ wx (a2.below f) (A7.below f) s5 t9 G3.out).mono ?_;rintro e w5 ⟨K8,R3,A5,k5,c5,R6,B5,m5,d5,rfl,o8⟩;exact hK.out _ _ ⟨_,rfl,(by simp only[Zl1];exact⟨_,_,_,_,_,_,_,_,rfl,o8⟩),K8,trivial⟩
        ·intro ν wx hb hP
         refine Zn (i:=15) rfl (λK hK=>?_);go_simp;exact hK.out _ _ ⟨_,rfl,(by simp only[Zl1];exact⟨_,rfl,hb.size,Qp _ _ _⟩),(Qc _ _).alloc (Qa _) _,trivial⟩
       case hfin1 =>
        intro ν wx hb hP;have h0:=hP (14,88) (by simp);have h4:=hP (15,11) (by simp);simp only[Zl1]at h0 h4;obtain⟨bbn,v7,bbk,bbc,bbm,u6,bbj,bbd,h0,bbf⟩:=h0;obtain⟨gbb,h4,kv,qv⟩:=h4;simp only[Qs,Qu,Zam,Qb,Zgy,Zge,Zgs];rw[h0,h4];clear h0 h4 hP ν;have f:=I.trans (hb.mono I.size);have e8:=qv.four;have A6:wi.heap.size<=gbb:=kv;refine(Zaa bbn v7 bbk bbc bbm u6 bbj bbd f A6 qv).elim (λZbb hq=>?_);have c0:=e8.1;have n8:=e8.2.1;have K9:=e8.2.2.1;have c3:=e8.2.2.2.1;have f0:=e8.2.2.2.2.1;have f1:=e8.2.2.2.2.2.1;have f2:=e8.2.2.2.2.2.2.1;have f3:=e8.2.2.2.2.2.2.2;have hZ:=hq.1;refine Ze (i:=16) rfl (by kernel_rfl) (λK hK=>?_);go_simp;(try rw[hZ]);refine hK.out _ _ (λ_=>C.out _ hq.2.1) ?_;clear hK K
        try simp only[Qb,Zgy,Zge,Zgs]
        refine Zj (by kernel_rfl) ?_ _;refine Qh ?_;have j7:=hq.2.1;have bbb:=Za hq.2.2.1;have F2:Hid (wi.heap.size<=gbb):=Za A6;replace bbf:=Za (Fr.keep bbf hq.2.2.2.1);clear hq hZ c0 n8 K9 c3 f0 f1 f2 f3 e8 qv kv A6 f hb I C hxs1;rw[q6.out]at bbf;have l6:=hM.out.below j7;have b6:Kept (λg=>g ∈ L.map RF.g) w1 Zbb:=hK.out.below j7
        have L7:Hid (gbb ∉ L.map RF.g):=Za (λhmem=>by
         obtain⟨t,cs,hb,-⟩:=L9.out gbb hmem;have:=hb.lt;have:=hK.out.size;have:=F2.out;omega)
        have E3:Hid (∀ k,k ∈ L.map RF.g->∃ t cs,Blk Zbb k t cs/\NoLimb cs):=Za (λk hk=>l6.boxes k (.inr (by rw[m7.out];exact hk)));have J9:Hid (ri.g ∈ L.map RF.g):=Za (by rw[<- m7.out];exact List.mem_map.2 ⟨ri,Qi O,rfl⟩);have Q5:Hid (r2.g ∈ L.map RF.g):=Za (by rw[<- m7.out];exact List.mem_map.2 ⟨r2,Qi j0,rfl⟩);clear hK hM p0 p1 p2 p3 q0 q1 q2 q3 s5 t9 a2 A7 ci cr zi zr j7;replace b6:=Za b6;go_wp2_with fail
        go_loopg [12] (n+1-p) (λk iv wr=>∃ (j:Nat) (q3:List Rat),j+k=n+1/\iv=.int .i64 j/\p<=j/\MatB 35 41 wr go (L2.set i ⟨ri.g,ri.c,q3⟩)/\Hid (q3.length=n+1)/\Hid (∀ t:Nat,q3[t]?.getD 0=if p<=t/\t<j then (Zbi L1 i)[t]?.getD 0-by_*(Zbi L1 p)[t]?.getD 0 else (Zbi L1 i)[t]?.getD 0)/\Kept (λg=>g ∈ L.map RF.g) Zbb wr)
        case atStart =>
         refine⟨p,ri.q,by omega,rfl,Qa _,?_,Za e5,Za (λt=>by rw[if_neg (by omega),d3]),QF _ _⟩
         have e:L2.set i ⟨ri.g,ri.c,ri.q⟩=L2:=by
          apply QH;intro t;rw[Qg]
          split
          rename_i h;subst h;rw[if_pos (by rw[d6.out];exact u),O];rfl
         rw[e];exact l6
        case round =>
         clear l6;obtain⟨wj,rfl⟩:∃ x:World,x=wr:=⟨_,rfl⟩;obtain⟨j,q3,Q6,rfl,L4,b7,l7,C0,f8⟩:=hrel;obtain⟨c0,z0⟩:=b7.cell (i:=i) (r:=⟨ri.g,ri.c,q3⟩) (by rw[Qg,if_pos rfl,if_pos (by rw[d6.out];exact u)]);simp only[l7.out]at c0;cases gk with
         | zero =>
          obtain rfl:j=n+1:=by omega
          have t5:decide (((n+1:Nat):Int)<=(n:Int))=false:=decide_eq_false (by omega);have P7:decide ((n:Int)+1<=(n:Int))=false:=decide_eq_false (by omega)
          have e7:Hid ((L2.set i ⟨ri.g,ri.c,q3⟩).length=n/\(L2.set i ⟨ri.g,ri.c,q3⟩).map RF.g=L.map RF.g/\(L2.set i ⟨ri.g,ri.c,q3⟩).map RF.c=L.map RF.c/\ClrTo L1 (L2.set i ⟨ri.g,ri.c,q3⟩) p p (i+1)):=Za (by
           refine⟨by rw[QC];exact d6.out,?_,?_,?_⟩;rw[Zcm (s:=⟨ri.g,ri.c,q3⟩) O rfl];exact m7.out;rw[Zcm (s:=⟨ri.g,ri.c,q3⟩) O rfl];exact w3.out
           ·refine v6.out.step (by rw[d6.out,g4.out]) (by rw[g4.out];exact u) (by omega) ?_
            refine Zuf (by rw[l7.out,b0.out i u]) (λt=>?_);rw[C0.out t,b0.out i u,hE.out i p u (by omega),hE.out p p a0 (by omega),q6.out])
          have N1:Hid (Kept (λg=>g ∈ L.map RF.g) w1 wj):=Za (b6.out.trans f8);replace b7:=Za b7;clear f8;go_wp2_with fail
          go_roundg (n-(i+1))
          case measure=>omega
          case rel=>exact⟨i+1,_,by omega,by go_num,by omega,b7.out,Za e7.out.1,Za e7.out.2.1,Za e7.out.2.2.1,Za e7.out.2.2.2,N1.out⟩
         | succ gk' =>
          obtain rfl:gk'=n-j:=by omega
          have s6:j<n+1:=by omega
          have t5:decide ((j:Int)<=(n:Int))=true:=decide_eq_true (by omega);have bj:(j:Int)<(n:Int)+1:=by omega
          have R7:(j:Int)<((n+1:Nat):Int):=by omega
          obtain⟨n8,z1⟩:=b7.cell (i:=p) (r:=r2) (by rw[Qg,if_neg (by omega)];exact j0);rw[u8]at n8;obtain⟨f3,-,-⟩:=b7.row (i:=i) (r:=⟨ri.g,ri.c,q3⟩) (by rw[Qg,if_pos rfl,if_pos (by rw[d6.out];exact u)]);obtain⟨f4,-,-⟩:=b7.row (i:=p) (r:=r2) (by rw[Qg,if_neg (by omega)];exact j0);obtain⟨n4,A4,k4,c4,m4,B4,j4,d4,q0,q1,q2,F8,H0⟩:=f4.at_ (i:=j) (by rw[u8];exact s6);rw[z3]at H0;have H7:=f8.blk bbb.out L7.out;obtain⟨x0,x1,x2,x3,-⟩:=H7.four;have L0:Fr wj bbn v7 bbk bbc bbm u6 bbj bbd by_:=⟨f8.wd bbf.out.1 E3.out,f8.wd bbf.out.2 E3.out⟩;have w7:=l7.out;obtain⟨n5,A5,k5,c5,m5,B5,j5,d5,u0,u1,u2,u3,o8⟩:=f3.at_ (i:=j) (by rw[w7];exact s6)
          have w9:q3[j]?.getD 0=(Zbi L1 i)[j]?.getD 0:=by
           have h1:=C0.out j;rw[if_neg (by omega)]at h1;exact h1
          simp only[w9]at o8;have v0:=f3.frozen (j*4);have v1:=f3.frozen (j*4+1);have v2:=f3.frozen (j*4+2);have v3:=f3.frozen (j*4+3);have K2:Hid (SmN 380 380 ((Zbi L1 i)[j]?.getD 0)):=Za (by rw[hE.out i j u (by omega)];exact hs.out p i j (by omega) a6.out u);have H8:Hid (SmN 380 380 ((Zbi L1 p)[j]?.getD 0)):=Za (by rw[hE.out p j a0 (by omega)];exact hs.out p p j (by omega) a6.out a0);have s5:=w4.out.sm (i:=300) (by decide) (by decide);have t9:=H8.out.sm (i:=380) (by decide) (by decide);have K5:=K2.out.sm (i:=380) (by decide) (by decide);have K4:Sm (by_*(Zbi L1 p)[j]?.getD 0):=(w4.out.mulN H8.out).sm (by decide) (by decide);replace b7:=Za b7;replace f8:=Za f8;clear f4 H7 f3 w7 w9;go_wp2_with fail;obtain⟨X0,U⟩:∃ X,wj.drew=X:=⟨_,rfl⟩;have I:Below wj.heap.size wj X0:=by rw[<- U];exact Zf (Qc _ _) 1
          have C:Hid (∀ wx,Below wj.heap.size wj wx->wx.cell? ⟨go,i,none⟩=some (.slice (some ⟨ri.g,0,none⟩) (n+1) ri.c)/\wx.cell? ⟨go,p,none⟩=some (.slice (some ⟨r2.g,0,none⟩) (n+1) r2.c)/\wx.cell? ⟨ri.g,j*4,none⟩=some (.bool n5)/\wx.cell? ⟨ri.g,j*4+1,none⟩=some (.slice A5 k5 c5)/\wx.cell? ⟨ri.g,j*4+2,none⟩=some (.bool m5)/\wx.cell? ⟨ri.g,j*4+3,none⟩=some (.slice B5 j5 d5)/\wx.cell? ⟨gbb,0,none⟩=some (.bool bbn)/\wx.cell? ⟨gbb,1,none⟩=some (.slice v7 bbk bbc)/\wx.cell? ⟨gbb,2,none⟩=some (.bool bbm)/\wx.cell? ⟨gbb,3,none⟩=some (.slice u6 bbj bbd)/\wx.cell? ⟨r2.g,j*4,none⟩=some (.bool n4)/\wx.cell? ⟨r2.g,j*4+1,none⟩=some (.slice A4 k4 c4)/\wx.cell? ⟨r2.g,j*4+2,none⟩=some (.bool m4)/\wx.cell? ⟨r2.g,j*4+3,none⟩=some (.slice B4 j4 d4)):=Za (λwx f=>⟨Zb f c0,Zb f n8,Zb f u0,Zb f u1,Zb f u2,Zb f u3,Zb f x0,Zb f x1,Zb f x2,Zb f x3,Zb f q0,Zb f q1,Zb f q2,Zb f F8⟩);refine wp_heldS [23] hmx C (by rw[U];exact I) (λhxs=>?_);rw[U];refine Zje 20 [0,1,2,3,4,5,6,7,8,9,10,11,12,13,14,15,16,17,18,19] rfl (by kernel_rfl) (C.out _ I) ?_
          iterate 20 (refine tk1 (v:=?_) rfl (Qr ⟨by kernel_rfl,?_⟩) ?_;rotate_left;(· intro W2 hSw;(try dsimp only at hSw);go_simp;try with_reducible rfl);try simp only[Qb,Zgy,Zge,Zgs,putG_a,putG_s,putG_z])
          refine tk0 ?_;refine Ze (i:=20) rfl (by kernel_rfl) (λK hK=>?_);go_simp;refine(Zho bbn v7 bbk bbc bbm u6 bbj bbd n4 A4 k4 c4 m4 B4 j4 d4 _ _ X0 (L0.below I) (H0.below I) s5 t9).mono ?_;rintro e i8 ⟨i4,yn,yA,yk,yc,ym,yB,yj,yd,rfl,hy⟩;have y:=I.trans (i4.mono I.size);refine hK.out _ _ (λ_=>C.out _ y) ?_;clear hK K
          try simp only[Qb,Zgy,Zge,Zgs]
          refine Ze (i:=21) rfl (by kernel_rfl) (λK hK=>?_);go_simp;refine(Zk2 n5 A5 k5 c5 m5 B5 j5 d5 yn yA yk yc ym yB yj yd _ _ i8 (o8.below y) hy K5 K4).mono ?_;rintro e H2 ⟨m3,zn,zA,zk,zc,zm,zB,zj,zd,rfl,hz⟩;have J:=y.trans (m3.mono y.size);refine hK.out _ _ (λ_=>C.out _ J) ?_;clear hK K
          try simp only[Qb,Zgy,Zge,Zgs]
          refine Zgf 1 [22] rfl (by kernel_rfl) (C.out _ J) ?_
          (refine tk1 (v:=?_) rfl (Qr ⟨by kernel_rfl,?_⟩) ?_;rotate_left;(· intro W2 _;go_simp;try with_reducible rfl);try simp only[Qb,Zgy,Zge,Zgs,putG_a,putG_s,putG_z])
          refine tk0 ?_;have i2:=b7.out.below J;obtain⟨Z9,f6⟩:∃ W,Zel H2 ri.g j zn zA zk zc zm zB zj zd=W:=⟨_,rfl⟩;have b4:=f6;unfold Zel at b4;have D3:Hid (Kept (λg=>g ∈ L.map RF.g) Zbb Z9):=Za (by rw[<- f6];exact Zh6 (f8.out.below J) (.inl J9.out))
          have A9:Hid (MatB 35 41 Z9 go (L2.set i ⟨ri.g,ri.c,q3.set j ((Zbi L1 i)[j]?.getD 0-by_*(Zbi L1 p)[j]?.getD 0)⟩)):=Za (by
           have h1:=i2.set_ (i:=i) (r:=⟨ri.g,ri.c,q3⟩) (by rw[Qg,if_pos rfl,if_pos (by rw[d6.out];exact u)]) (k:=j) (by rw[show RF.q ⟨ri.g,ri.c,q3⟩=q3 from rfl,l7.out];exact s6) hz;rw[List.set_set]at h1;rw[<- f6];exact h1)
          have f0:=Zk J u0 v0;have f1:=Zk J u1 v1;have f2:=Zk J u2 v2;have f3:=Zk J u3 v3;have g0:=Zb J u0;have g1:=Zb J u1;have g2:=Zb J u2;have g3:=Zb J u3;clear i2 f6;refine Zm (i:=23) rfl (by kernel_rfl) (by kernel_rfl) (λK hK=>?_);go_simp;(try rw[b4]);refine hK.out _ _ ?_;clear hK K
          try simp only[Qb,Zgy,Zge,Zgs]
          refine Zj (by kernel_rfl) ?_ _;refine Qh ?_;clear b4 f0 f1 f2 f3 g0 g1 g2 g3 J I C hxs U u0 u1 u2 u3 x0 x1 x2 x3 v0 v1 v2 v3 q0 q1 q2 F8 hz hy o8 b7 f8 c0 n8 z0 z1;go_wp2_with fail
          go_roundg (n-j)
          case measure=>omega
          case rel=>exact⟨j+1,_,by omega,by go_num,by omega,A9.out,Za (by rw[QC];exact l7.out),Za (Zqf (by rw[l7.out,b0.out i u]) L4 (by rw[b0.out i u];exact s6) rfl C0.out),D3.out⟩
