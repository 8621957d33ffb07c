/- Package covar: the distance of a vector, out of the -/
import Derived.Deep.LoopGhost
import Derived.Test.YthappeninglakaaGreatZa11
set_option maxRecDepth 100000
set_option maxHeartbeats 8000000
set_option linter.unusedSimpArgs false
set_option linter.unusedVariables false
namespace Go.Proofs.YthappeninglakaaGreat
open Go.RowKit
open Act renaming put→Qa
open Below renaming refl→Qb
open Rat renaming intCast_mul→Qc,mul_nonneg→Qf,intCast_le_intCast→Qi,intCast_natCast→Ql,mul_pos→Qm,le_of_lt→Qt
open Int renaming natAbs_natCast→Qd,mul_le_mul→Qe,mul_nonneg→Qr,fdiv→Qs
open List renaming mem_of_getElem?→Qg,getElem?_eq_getElem→Qh,map_cons→Qj,map_nil→Qk,any_eq_true→Qp,not_mem_nil→Qv,length_map→Qw
open Nat renaming le_trans→Qn,lt_or_ge→Qo,zero_le→Qq,le_refl→Qu
attribute [local go_sem] Zi
structure Zst (A:Nat->Nat->Rat) (n:Nat) (x:Nat->Rat):Prop where
 a:∀ t i,t<=i->i<n->Sm (Zu (brd A x n) t i n)
 l:∀ i t,t<i->i<n->Sm (lQ A i t)
 ly:∀ i t,t<i->i<n->Sm (lQ A i t*Zu (brd A x n) t t n)
 zz:∀ i,i<n->Sm (zV A n x i*zV A n x i)
 d:∀ i,i<n->Sm (dQ A i)
 q:∀ i,i<n->Sm (zV A n x i*zV A n x i/dQ A i)
 s:∀ i,i<=n->Sm (Za7 i (λs=>zV A n x s*zV A n x s/dQ A s))
def zL(A:Nat->Nat->Rat)(n:Nat)(x:Nat->Rat)(i:Nat):List Rat:=(List.range i).map (zV A n x)
section
variable{A:Nat->Nat->Rat}{n i k:Nat}{x:Nat->Rat}
theorem Zub:(zL A n x i).length=i:=by simp[zL]
theorem zL_at(h:k<i):(zL A n x i)[k]?.getD 0=zV A n x k:=by simp[zL,h]
theorem zL_succ:zL A n x (i+1)=zL A n x i ++ [zV A n x i]:=by simp[zL,List.range_succ]
theorem Zpb(hki:k<i)(hi:i<n):Zu (brd A x n) (k+1) i n=Zu (brd A x n) k i n-lQ A i k*zV A n x k:=by
 rw[Zy0 hki,brd_l x hi Gk];rfl
end
theorem sumF2(s q:Rat):sumF [s,q] 2=s+q:=by
 show (0+s)+q=_
 grind
theorem Zes{a b:Rat}(h:Sm a):∀ j,j<1->Sm (Zi0 a [b] j):=λj hj=>by
 obtain rfl:j=0:=Gk;exact h
theorem Zfm{b:Rat}(h:Sm b):∀ j:Nat,j<1->Sm ([b][j]?.getD 0):=λj hj=>by
 obtain rfl:j=0:=Gk;exact h
theorem Zqv{a b:Rat}(h:Sm a):∀ j,j<2->Sm (sumF [a,b] j):=λj hj=>by
 rcases(show j=0 \/ j=1 by omega)with rfl|rfl;exact(SmN.int (i:=2) (n:=0) GY).sm Gj Gj
 have e:sumF [a,b] 1=a:=by
   show 0+a=a
   grind
 rw[e];exact h
theorem Zt2{a b:Rat}(h:Sm a)(k:Sm b):∀ j:Nat,j<2->Sm ([a,b][j]?.getD 0):=λj hj=>by
 rcases(show j=0 \/ j=1 by omega)with rfl|rfl;exact h;exact k
theorem Zh4(a b:Rat):Zi0 a [b] 1=a*b:=rfl
theorem Zzs(A1 A2 V:Option Addr)(n c1 c2 cv:Nat)(AQ:Nat->Nat->Rat)(xs:List Rat)(w:World)(hn6:n<=6)(hM:MFL w A1 n c1 (Zhb AQ n))(hD:FL w A2 n c2 (dsL AQ n))(hV:FL w V n cv xs)(hp:posP AQ n)(hS:Zst AQ n (λi=>xs[i]?.getD 0)) :
    Calls Tryz.prog 66 #[.agg #[.slice A1 n c1,.slice A2 n c2],.slice V n cv] w (Zdp w (bil AQ n (λi=>xs[i]?.getD 0) (λi=>xs[i]?.getD 0))):=by
 obtain⟨iN,hi,υ2,υ8,t5⟩:=info_parts Zl5;have hmx:=Gt;have o0:=hV.cap;have υ4:=hM.2.1;have l5:=hM.2.2.1;have n4:=hD.cap;unfold maxLen at o0 l5 n4;obtain⟨X,m9⟩:∃ X:Nat->Rat,(λi:Nat=>xs[i]?.getD 0)=X:=⟨_,rfl⟩;have hxs:Hid (∀ i:Nat,xs[i]?.getD 0=X i):=Zd (λi=>by rw[<- m9]);rw[m9]at hS ⊢;replace hS:=Zd hS;replace hp:=Zd hp;clear m9;obtain⟨W0,q1,h7,⟨qf,qr⟩,s0⟩:=Zda w 99 #[.slice A1 n c1,.slice A2 n c2] 73 #[.bool false,.slice none 0 0,.bool false,.slice none 0 0];obtain⟨gf,k5⟩:=Gz w.heap.size;replace hM:=Zd (hM.below h7);replace hD:=Zd (hD.below h7);replace hV:=Zd (hV.below h7);rw[k5]at qf qr s0;replace h7:=Zd h7;replace qf:=Zd qf;replace qr:=Zd qr;have v4:=Zd s0;clear s0;go_in;go_wp2_with fail;(try rw[q1]);(try rw[k5]);clear q1;replace k5:=Zd k5;refine(Zqp 0 W0 Gj Gj).mono ?_;rintro e w1 ⟨h8,sn,sA,sk,sc,sm,sB,sj,sd,rfl,sf⟩;replace hM:=Zd (hM.out.below h8);replace hD:=Zd (hD.out.below h8);replace hV:=Zd (hV.out.below h8);replace qf:=Gm h8 qf;replace qr:=Gm h8 qr;have k9:=Gn h7 h8;clear h7 h8;replace sf:=Zd sf;have r9:=hM;have υ7:=hD;have t8:=hV;have j5:=k9;have r6:=qf;have p0:=qr;clear hM hD hV;obtain⟨g3,g9⟩:=Gz w1.heap.size;obtain⟨V5,o3,q7,g0⟩:=Zaq (w:=w1) 73 #[.bool sn,.slice sA sk sc,.bool sm,.slice sB sj sd];rw[g9]at q7;have l4:=Zd g0;replace qf:=Gm g0 qf;replace qr:=Gm g0 qr
 replace sf:=Zd (sf.out.below g0);have w4:=Gn k9 g0;clear k9 g0;replace q7:=Zd q7;have o5:Hid (w1.heap.size+1=V5.heap.size):=Zd (by rw[<- o3];simp);go_wp2_with fail;(try rw[g9]);(try rw[o3]);clear o3;replace g9:=Zd g9;have s6:Hid (Za7 0 (λs=>zV AQ n X s*zV AQ n X s/dQ AQ s)=((0:Int):Rat)):=Zd rfl;replace sf:Hid (Fr V5 sn sA sk sc sm sB sj sd (Za7 0 (λs=>zV AQ n X s*zV AQ n X s/dQ AQ s))):=Zd (by rw[s6.out];exact sf.out)
 have o9:Hid (V5.heap.size=g3+1/\gf+1<g3):=Zd ⟨by
  have h2:=g9.out;have h3:=o5.out;omega,by
  have h2:=g9.out;have h5:=p0.out.lt;omega⟩
 clear s6 qf qr
 go_loopg [6,7,8,9,10,11,15] n (λt yv v7 v8 v9 v10 v11 iv wr=>∃ (i:Nat) (sn:Bool) (sA:Option Addr) (sk sc:Nat) (sm:Bool) (sB:Option Addr) (sj sd:Nat),i+t=n/\iv=.int .i64 i/\Hid (OwnF 73 wr V5.heap.size yv (zL AQ n X i))/\Hid (Blk wr g3 73 #[.bool sn,.slice sA sk sc,.bool sm,.slice sB sj sd])/\Hid (Fr wr sn sA sk sc sm sB sj sd (Za7 i (λs=>zV AQ n X s*zV AQ n X s/dQ AQ s)))/\Hid (Kept (λk=>k=g3) V5 wr))
 case atStart=>exact⟨0,_,_,_,_,_,_,_,_,by omega,rfl,Zd (OwnF.nil _ _ _),q7,sf,Zd (Kept.refl _ _)⟩
 case round =>
  obtain⟨wi,rfl⟩:=Gy wr;clear q7 sf;obtain⟨i,sn,sA,sk,sc,sm,sB,sj,sd,v5,rfl,hO,qs,hs,hK⟩:=hrel;have h4:Hid (Below w1.heap.size w1 wi):=Zd (l4.out.trans (hK.out.to_below (λk e=>by rw[e];exact Nat.le_of_eq g9.out) l4.out.size));have w0:=h4.out.size;obtain⟨x4,w6⟩:=o9.out;have w2:=hK.out.size;have s2:w1.heap.size=g3:=g9.out;obtain⟨Ay,cy,ey,k4⟩:=hO.out.fl;rw[Zub]at ey k4;subst ey;have υ3:=k4.cap;unfold maxLen at υ3;replace k4:=Zd k4;replace s2:=Zd s2;cases gk with
  | zero =>
   obtain rfl:i=n:=Gk;have t1:decide ((i:Int)<(i:Int))=false:=Gh;have qR:=Ze h4.out p0.out;obtain⟨c0,c1,c2,c3,z0,z1,z2,z3⟩:=qR.four;obtain⟨x0,x1,x2,x3,-⟩:=qs.out.four;obtain⟨W5,i2,q5,f8,s5⟩:=Za2 sn sA sk sc sm sB sj sd qR;go_wp2_with fail;(try rw[i2]);obtain⟨r0,r1,r2,r3,-⟩:=q5.four;refine bodyPost_ret (v:=.agg #[.bool sn,.slice sA sk sc,.bool sm,.slice sB sj sd]) (by simp[results,Tryz.results66,go_sem,r0,r1,r2,r3]) rfl ?_;refine⟨?_,_,_,_,_,_,_,_,_,rfl,hs.out.keptN f8 qR (Zbf _ _ _ _ _ _ _ _)⟩;exact(Gs j5.out h4.out).trans (f8.to_below (λk e=>by have:=k5.out;omega) (by have:=j5.out.size;omega))
  | succ t' =>
   obtain rfl:t'=n-(i+1):=Gk;have d7:i<n:=Gk;have t1:decide ((i:Int)<(n:Int))=true:=Gv Gk;have bi:(i:Int)<(n:Int):=Gk;obtain⟨gv,ov,fn,fA,fk,fc,fm,fB,fj,fd,rfl,⟨f0,f1,f2,f3⟩,hf⟩:=(t8.out.below h4.out).at_ d7;rw[hxs.out]at hf;obtain⟨V8,k0,q8,g0⟩:=Zaq (w:=wi) 41 #[.bool fn,.slice fA fk fc,.bool fm,.slice fB fj fd];obtain⟨V9,j8,q9,p7⟩:=Zaq (w:=V8) 73 #[.bool fn,.slice fA fk fc,.bool fm,.slice fB fj fd];obtain⟨g8,k7⟩:=Gz wi.heap.size;have o2:V8.heap.size=g8+1:=by rw[<- k0,<- k7];simp
   have n2:V9.heap.size=g8+1+1:=by rw[<- j8,<- o2];simp
   rw[o2]at q9;have j0:Below wi.heap.size wi V9:=Gs g0 p7
   have p6:Hid (Fr V9 fn fA fk fc fm fB fj fd (Zu (brd AQ X n) 0 i n)):=Zd (by
    have e:Zu (brd AQ X n) 0 i n=X i:=by
     show brd AQ X n i n=X i;unfold brd;rw[Gx d7,Gw (Nat.lt_irrefl _)]
    rw[e];exact hf.below j0)
   replace j0:=Zd j0;replace q9:=Zd q9;replace k7:=Zd k7;replace k0:=Zd k0;replace j8:=Zd j8;replace n2:=Zd n2;clear q8 g0 p7 o2 hf;go_wp2_with fail;rw[k0.out,k7.out,j8.out];clear k0 j8 f0 f1 f2 f3
   go_loopg [10,11,24] i (λt v10 v11 kv wk=>∃ (k:Nat) (an:Bool) (aA:Option Addr) (ak ac:Nat) (am:Bool) (aB:Option Addr) (aj ad:Nat),k+t=i/\kv=.int .i64 k/\Hid (Blk wk (g8+1) 73 #[.bool an,.slice aA ak ac,.bool am,.slice aB aj ad])/\Hid (Fr wk an aA ak ac am aB aj ad (Zu (brd AQ X n) k i n))/\Hid (Kept (λk=>k=g8+1) V9 wk))
   case atStart=>exact⟨0,_,_,_,_,_,_,_,_,by omega,rfl,q9,p6,Zd (Kept.refl _ _)⟩
   case round =>
    clear q9 p6;obtain⟨wk,rfl⟩:=Gy wr;obtain⟨k,an,aA,ak,ac,am,aB,aj,ad,w9,rfl,qa,hA,f5⟩:=hrel;have υ9:=k7.out;have v0:=n2.out;have h6:Hid (Below wi.heap.size wi wk):=Zd (j0.out.trans (f5.out.to_below (λk e=>by omega) Gk));have m3:Hid (Below w1.heap.size w1 wk):=Zd (Gs h4.out h6.out);have v6:=h6.out.size;cases gk with
    | succ t' =>
     obtain rfl:t'=i-(k+1):=Gk;have g2:k<i:=Gk;have t2:decide ((k:Int)<(i:Int))=true:=Gv Gk;have bk:(k:Int)<(i:Int):=Gk;obtain⟨gy,oy,bn,bA,l9,bc,bm,bB,bj,bd,rfl,⟨b0,b1,b2,b3⟩,hb⟩:=(k4.out.below h6.out).at_ g2;rw[zL_at g2]at hb;obtain⟨gm,om,Ar,nr,cr,m8,m0,hR⟩:=(r9.out.below m3.out).at_ d7;subst m8;rw[Zm6 d7]at hR;obtain rfl:i=nr:=by rw[<- hR.len,Zga]
     have t9:=hR.cap;unfold maxLen at t9;obtain⟨gr,or_,ln,lA,lk,lc,lm,lB,lj,ld,rfl,⟨l0,l1,l2,l3⟩,hl⟩:=hR.at_ g2;rw[Zma g2]at hl;clear hR;have f9:=Zd hb;have m7:=Zd hl;have f7:=Zd (Ze m3.out r6.out);clear hb hl;obtain⟨f4,h0⟩:=Gz wk.heap.size;obtain⟨c7,j4,c8,d8⟩:=Zaq (w:=wk) 73 #[.bool bn,.slice bA l9 bc,.bool bm,.slice bB bj bd];rw[h0]at c8;replace qa:=Gm d8 qa;replace hA:=Zd (hA.out.below d8);replace f5:=Zd (f5.out.below d8);replace f9:=Zd (f9.out.below d8);replace m7:=Zd (m7.out.below d8);replace f7:=Gm d8 f7;have g7:=Gn h6 d8;clear h6 d8;replace c8:=Zd c8;go_wp2_with fail;(try rw[h0]);(try rw[j4]);clear j4;replace h0:=Zd h0;have n9:Hid (Below w1.heap.size w1 c7):=Zd (Gs h4.out g7.out);obtain⟨w3,w5,x5,υ5,s9,m8,m1,hR⟩:=(r9.out.below n9.out).at_ d7;cases m8;rw[Zm6 d7]at hR;obtain rfl:i=υ5:=by rw[<- hR.len,Zga]
     have q3:=hR.cap;unfold maxLen at q3;obtain⟨j7,j6,p4,q2,p1,r7,p2,p5,o8,s3,t0,⟨e3,e1,e2,e5⟩,o1⟩:=hR.at_ g2;subst t0;rw[Zma g2]at o1;have g4:=Zd o1;clear o1 hR m0 l0 l1 l2 l3 m7;have a8:c7.cell? ⟨g8+1,0,none⟩=some (.bool an):=qa.out.cell 0;have b4:c7.cell? ⟨g8+1,1,none⟩=some (.slice aA ak ac):=qa.out.cell 1;have b6:c7.cell? ⟨g8+1,2,none⟩=some (.bool am):=qa.out.cell 2;have b7:c7.cell? ⟨g8+1,3,none⟩=some (.slice aB aj ad):=qa.out.cell 3;have b9:c7.cell? ⟨f4,0,none⟩=some (.bool bn):=c8.out.cell 0;have a9:c7.cell? ⟨f4,1,none⟩=some (.slice bA l9 bc):=c8.out.cell 1;have c4:c7.cell? ⟨f4,2,none⟩=some (.bool bm):=c8.out.cell 2;have b5:c7.cell? ⟨f4,3,none⟩=some (.slice bB bj bd):=c8.out.cell 3;have b8:c7.cell? ⟨gf,0,none⟩=some (.slice (some ⟨gm,om,none⟩) n c1):=f7.out.cell 0;have y:Below c7.heap.size c7 c7.drew:=Zh (Qb _ _) 1;replace qa:=Gm y qa;replace hA:=Zd (hA.out.below y);replace f5:=Zd (f5.out.below y);replace f9:=Zd (f9.out.below y);replace f7:=Gm y f7;replace c8:=Gm y c8;replace g4:=Zd (g4.out.below y);have i4:=Gn g7 y;clear g7;replace m1:=Zc y m1;replace e3:=Zc y e3;replace e1:=Zc y e1;replace e2:=Zc y e2;replace e5:=Zc y e5;replace a8:=Zc y a8
     replace b4:=Zc y b4;replace b6:=Zc y b6;replace b7:=Zc y b7;replace b9:=Zc y b9;replace a9:=Zc y a9;replace c4:=Zc y c4;replace b5:=Zc y b5;replace b8:=Zc y b8;clear y;refine Zz [13] (λwx=>(wx.cell? ⟨gm,om+i,none⟩=some (.slice (some ⟨j7,j6,none⟩) i s9))/\(wx.cell? ⟨j7,j6+k*4,none⟩=some (.bool p4))/\(wx.cell? ⟨j7,j6+k*4+1,none⟩=some (.slice q2 p1 r7))/\(wx.cell? ⟨j7,j6+k*4+2,none⟩=some (.bool p2))/\(wx.cell? ⟨j7,j6+k*4+3,none⟩=some (.slice p5 o8 s3))/\(wx.cell? ⟨g8+1,0,none⟩=some (.bool an))/\(wx.cell? ⟨g8+1,1,none⟩=some (.slice aA ak ac))/\(wx.cell? ⟨g8+1,2,none⟩=some (.bool am))/\(wx.cell? ⟨g8+1,3,none⟩=some (.slice aB aj ad))/\(wx.cell? ⟨f4,0,none⟩=some (.bool bn))/\(wx.cell? ⟨f4,1,none⟩=some (.slice bA l9 bc))/\(wx.cell? ⟨f4,2,none⟩=some (.bool bm))/\(wx.cell? ⟨f4,3,none⟩=some (.slice bB bj bd))/\(wx.cell? ⟨gf,0,none⟩=some (.slice (some ⟨gm,om,none⟩) n c1))) hmx ⟨m1,e3,e1,e2,e5,a8,b4,b6,b7,b9,a9,c4,b5,b8⟩ (λ_=>?_);refine Zkb 10 [0,1,2,3,4,5,6,7,8,9] rfl Gi ⟨m1,e3,e1,e2,e5,a8,b4,b6,b7,b9,a9,c4,b5,b8⟩ ?_
     iterate 10 (refine tkA ?_;try simp only[Qa,Zg9,Zgn,Zg3,Gr,Gq,Gp])
     refine tk0 ?_;obtain⟨p9,g6⟩:=Gz c7.drew.heap.size;obtain⟨r4,k3,e4,I⟩:=Zaq (w:=c7.drew) 73 #[.bool bn,.slice bA l9 bc,.bool bm,.slice bB bj bd];rw[g6]at e4;refine wpAnyL_o 10 λK hK=>?_;go_simp;(try rw[g6]);(try rw[k3]);clear k3;replace qa:=Gm I qa;replace hA:=Zd (hA.out.below I);replace f5:=Zd (f5.out.below I);replace f9:=Zd (f9.out.below I);replace f7:=Gm I f7;replace c8:=Gm I c8;replace g4:=Zd (g4.out.below I);have i6:=Gn i4 I;clear i4;replace m1:=Zc I m1;replace e3:=Zc I e3;replace e1:=Zc I e1;replace e2:=Zc I e2;replace e5:=Zc I e5;replace a8:=Zc I a8;replace b4:=Zc I b4;replace b6:=Zc I b6;replace b7:=Zc I b7;replace b9:=Zc I b9;replace a9:=Zc I a9;replace c4:=Zc I c4;replace b5:=Zc I b5;replace b8:=Zc I b8;clear I;replace e4:=Zd e4;replace g6:=Zd g6;refine hK.out _ _ (λ_=>⟨m1,e3,e1,e2,e5,a8,b4,b6,b7,b9,a9,c4,b5,b8⟩) ?_;clear hK K
     try simp only[Qa,Zg9,Zgn,Zg3,Gr,Gq,Gp]
     have d4:=FL.sing1 e4.out f9.out;replace d4:=Zd d4;have sl:Sm (lQ AQ i k):=hS.out.l i k g2 d7;have sz:Sm (zV AQ n X k):=hS.out.a k k (Qu _) Gk;refine wpAnyL_o 11 λK hK=>?_;go_simp;refine(Zcs p4 q2 p1 r7 p2 p5 o8 s3 _ (some ⟨p9,0,none⟩) 1 1 [zV AQ n X k] r4 g4.out d4.out Gj (Zes sl) (Zfm sz)).mono ?_;rintro e q0 ⟨o,pn,pA,pk,pc,pm,pB,pj,pd,rfl,pf⟩;replace qa:=Gm o qa;replace hA:=Zd (hA.out.below o);replace f5:=Zd (f5.out.below o);replace f9:=Zd (f9.out.below o);replace f7:=Gm o f7;replace c8:=Gm o c8;replace g4:=Zd (g4.out.below o);replace e4:=Gm o e4;replace d4:=Zd (d4.out.below o);have i5:=Gn i6 o;clear i6;replace m1:=Zc o m1;replace e3:=Zc o e3;replace e1:=Zc o e1;replace e2:=Zc o e2;replace e5:=Zc o e5;replace a8:=Zc o a8;replace b4:=Zc o b4;replace b6:=Zc o b6;replace b7:=Zc o b7;replace b9:=Zc o b9;replace a9:=Zc o a9;replace c4:=Zc o c4;replace b5:=Zc o b5;replace b8:=Zc o b8;clear o;rw[Zh4]at pf;replace pf:=Zd pf;refine hK.out _ _ (λ_=>⟨m1,e3,e1,e2,e5,a8,b4,b6,b7,b9,a9,c4,b5,b8⟩) ?_;clear hK K
     try simp only[Qa,Zg9,Zgn,Zg3,Gr,Gq,Gp]
     refine wpAnyL_o 12 λK hK=>?_;go_simp;refine(Ze3 an am pn pm aA aB pA pB ak ac aj ad pk pc pj pd _ _ q0 hA.out pf.out (hS.out.a k i Gk d7) (hS.out.ly i k g2 d7)).mono ?_;rintro e j1 ⟨f,rn,rA,rk,rc,rm,rB,rj,rd,rfl,rf⟩;replace qa:=Gm f qa;replace hA:=Zd (hA.out.below f);replace f5:=Zd (f5.out.below f);replace f9:=Zd (f9.out.below f);replace f7:=Gm f f7;replace c8:=Gm f c8;replace g4:=Zd (g4.out.below f);replace e4:=Gm f e4;replace d4:=Zd (d4.out.below f);replace pf:=Zd (pf.out.below f);have υ0:=Gn i5 f;clear i5;replace m1:=Zc f m1;replace e3:=Zc f e3;replace e1:=Zc f e1;replace e2:=Zc f e2;replace e5:=Zc f e5;replace a8:=Zc f a8;replace b4:=Zc f b4;replace b6:=Zc f b6;replace b7:=Zc f b7;replace b9:=Zc f b9;replace a9:=Zc f a9;replace c4:=Zc f c4;replace b5:=Zc f b5;replace b8:=Zc f b8;clear f;rw[<- Zpb g2 d7]at rf;replace rf:=Zd rf;refine hK.out _ _ (λ_=>⟨m1,e3,e1,e2,e5,a8,b4,b6,b7,b9,a9,c4,b5,b8⟩) ?_;clear hK K
     try simp only[Qa,Zg9,Zgn,Zg3,Gr,Gq,Gp]
     obtain⟨n0,o6,n5,m6⟩:j1.frozen? ⟨g8+1,0,none⟩=false/\j1.frozen? ⟨g8+1,1,none⟩=false/\j1.frozen? ⟨g8+1,2,none⟩=false/\j1.frozen? ⟨g8+1,3,none⟩=false:=⟨qa.out.frozen 0,qa.out.frozen 1,qa.out.frozen 2,qa.out.frozen 3⟩;obtain⟨W5,i2,q5,f8,s5⟩:=Za2 rn rA rk rc rm rB rj rd qa.out;refine Zy (i:=13) rfl Gi Gi (λK hK=>?_);go_simp;(try rw[i2]);refine hK.out _ _ ?_;clear hK K
     try simp only[Qa,Zg9,Zgn,Zg3,Gr,Gq,Gp]
     have n8:=Zd (rf.out.keptN f8 qa.out (Zbf _ _ _ _ _ _ _ _));have j9:Hid (Kept (λk=>k=g8+1) V9 W5):=Zd (Kept.trans f5.out f8);have o7:=Zd q5;clear n0 o6 n5 m6 i2 f8 s5 q5 rf pf hA qa d4 e4 sl sz;refine wpAnyL_fin ?_;clear m1 e3 e1 e2 e5 a8 b4 b6 b7 b9 a9 c4 b5 b8;go_wp2_with fail
     go_roundg (i-(k+1))
     case measure=>omega
     case rel=>exact⟨k+1,_,_,_,_,_,_,_,_,by omega,by go_num,o7,n8,j9⟩
    | zero =>
     obtain rfl:k=i:=Gk;have t2:decide ((k:Int)<(k:Int))=false:=Gh;have n3:Zu (brd AQ X n) k k n=zV AQ n X k:=rfl;rw[n3]at hA;obtain⟨Y1,p8,qz,j3⟩:=Zaq (w:=wk) 73 #[.bool an,.slice aA ak ac,.bool am,.slice aB aj ad];obtain⟨gz,o4⟩:=Gz wk.heap.size;rw[o4]at qz;have i9:Below wi.heap.size wi Y1:=Gs h6.out j3;have q4:=hO.out.kept i9;have m4:=hA.out.below j3;have n7:=(hK.out.below i9).size;have t7:(zL AQ n X k).length+1<=1000:=by rw[Zub];omega
     obtain⟨a0,a1,a2,a3,-⟩:=qa.out.four;replace n3:=Zd n3;go_wp2_with ((try rw[p8]);(try rw[o4]);at_builtin;refine Zdt _ rfl (.tmp 43) (.tmp 45) 97 rfl V5.heap.size 73 iN Tryz.underlying97 hi υ2 υ8 t5 _ _ rfl q4 _ (some ⟨gz,0,none⟩) 1 1 [⟨an,aA,ak,ac,am,aB,aj,ad,zV AQ n X k⟩] rfl (Zcn _ qz) rfl (by intro e he;rw[List.mem_singleton]at he;subst he;exact m4) t7 n7 ?_;intro v7 w7 k2 l6 n6);simp only[Qj,Qk]at k2;rw[<- zL_succ]at k2;obtain⟨t4,t3,e7,k8⟩:=k2.fl;rw[Zub]at e7 k8;subst e7;have s8:=k8.cap;unfold maxLen at s8;have l8:∀ q,(Value.slice Ay k cy).ownBlock=some q->V5.heap.size<=q/\q<wi.heap.size:=λq e=>⟨hO.out.row_ge q e,hO.out.blt q e⟩;have n1:Kept (λq=>q=g3) V5 w7:=Kept.grownC (hK.out.below i9) l6 (λq e=>(l8 q e).1);have h1:Hid (Below w1.heap.size w1 w7):=Zd (l4.out.trans (n1.to_below (λq e=>by rw[e];exact Nat.le_of_eq g9.out) l4.out.size))
     have c6:Hid (Blk w7 g3 73 #[.bool sn,.slice sA sk sc,.bool sm,.slice sB sj sd]):=Zd ((l6.block g3 (by have:=i9.size;omega) (λe=>by
      have h9:=(l8 g3 (by first|exact e|exact e.symm)).1;omega)).trans (Ze i9 qs.out))
     have d6:Hid (Blk w7 (g8+1) 73 #[.bool an,.slice aA ak ac,.bool am,.slice aB aj ad]):=Zd ((l6.block (g8+1) (by have:=j3.size;have:=qa.out.lt;omega) (λe=>by
      have h9:=(l8 (g8+1) (by first|exact e|exact e.symm)).2;omega)).trans (Ze j3 qa.out))
     have e0:Hid (Fr w7 sn sA sk sc sm sB sj sd (Za7 k (λs=>zV AQ n X s*zV AQ n X s/dQ AQ s))):=Zd ((hs.out.below i9).of_keep n6);have d9:Hid (Fr w7 an aA ak ac am aB aj ad (zV AQ n X k)):=Zd (m4.of_keep n6);obtain⟨gd,od,dn,dA,dk,dc,dm,dB,dj,dd,υ1,⟨d0,d1,d2,d3⟩,hd⟩:=(υ7.out.below h1.out).at_ d7;subst υ1;rw[Zqm d7]at hd;have e9:=Zd hd;have e8:=Zd (Ze h1.out r6.out);have t6:=Zd k2;have e6:=Zd n1;have v3:=Zd n7;have w8:g3<V5.heap.size:=Gk
     replace k8:=Zd k8;clear hd k2 n1 p8 o4 j3 i9 q4 m4 n7 n6 l6 l8 a0 a1 a2 a3 qz;have d5:Hid (Below w7.heap.size w7 w7):=Zd (Qb _ _);go_wp2_with fail;have a4:w7.cell? ⟨g3,0,none⟩=some (.bool sn):=c6.out.cell 0;have J:w7.cell? ⟨g3,1,none⟩=some (.slice sA sk sc):=c6.out.cell 1;have a6:w7.cell? ⟨g3,2,none⟩=some (.bool sm):=c6.out.cell 2;have O:w7.cell? ⟨g3,3,none⟩=some (.slice sB sj sd):=c6.out.cell 3;have Y:w7.cell? ⟨g8+1,0,none⟩=some (.bool an):=d6.out.cell 0;have a7:w7.cell? ⟨g8+1,1,none⟩=some (.slice aA ak ac):=d6.out.cell 1;have U:w7.cell? ⟨g8+1,2,none⟩=some (.bool am):=d6.out.cell 2;have a5:w7.cell? ⟨g8+1,3,none⟩=some (.slice aB aj ad):=d6.out.cell 3;have T:w7.cell? ⟨gf,1,none⟩=some (.slice (some ⟨gd,od,none⟩) n c2):=e8.out.cell 1;have u:Below w7.heap.size w7 w7.drew:=Zh (Qb _ _) 1;replace d5:=Gn d5 u;replace c6:=Gm u c6;replace d6:=Gm u d6;replace e0:=Zd (e0.out.below u);replace d9:=Zd (d9.out.below u);replace e9:=Zd (e9.out.below u);replace e8:=Gm u e8;replace e6:=Zd (e6.out.below u);have i8:=Gn h1 u;clear h1;replace a4:=Zc u a4;replace J:=Zc u J;replace a6:=Zc u a6;replace O:=Zc u O;replace Y:=Zc u Y;replace a7:=Zc u a7
     replace U:=Zc u U;replace a5:=Zc u a5;replace T:=Zc u T;replace d0:=Zc u d0;replace d1:=Zc u d1;replace d2:=Zc u d2;replace d3:=Zc u d3;clear u;refine Zz [13] (λwx=>(wx.cell? ⟨g3,0,none⟩=some (.bool sn))/\(wx.cell? ⟨g3,1,none⟩=some (.slice sA sk sc))/\(wx.cell? ⟨g3,2,none⟩=some (.bool sm))/\(wx.cell? ⟨g3,3,none⟩=some (.slice sB sj sd))/\(wx.cell? ⟨g8+1,0,none⟩=some (.bool an))/\(wx.cell? ⟨g8+1,1,none⟩=some (.slice aA ak ac))/\(wx.cell? ⟨g8+1,2,none⟩=some (.bool am))/\(wx.cell? ⟨g8+1,3,none⟩=some (.slice aB aj ad))/\(wx.cell? ⟨gf,1,none⟩=some (.slice (some ⟨gd,od,none⟩) n c2))/\(wx.cell? ⟨gd,od+k*4,none⟩=some (.bool dn))/\(wx.cell? ⟨gd,od+k*4+1,none⟩=some (.slice dA dk dc))/\(wx.cell? ⟨gd,od+k*4+2,none⟩=some (.bool dm))/\(wx.cell? ⟨gd,od+k*4+3,none⟩=some (.slice dB dj dd))) hmx ⟨a4,J,a6,O,Y,a7,U,a5,T,d0,d1,d2,d3⟩ (λ_=>?_);refine Zkb 8 [0,1,2,5,6,7,8,9] rfl Gi ⟨a4,J,a6,O,Y,a7,U,a5,T,d0,d1,d2,d3⟩ ?_
     iterate 8 (refine tkA ?_;try simp only[Qa,Zg9,Zgn,Zg3,Gr,Gq,Gp])
     refine tk0 ?_;obtain⟨s7,g5⟩:=Gz w7.drew.heap.size;obtain⟨s1,k6,c9,C⟩:=Zaq (w:=w7.drew) 73 #[.bool an,.slice aA ak ac,.bool am,.slice aB aj ad];rw[g5]at c9;refine wpAnyL_o 3 λK hK=>?_;go_simp;(try rw[g5]);(try rw[k6]);clear k6;replace d5:=Gn d5 C;replace c6:=Gm C c6;replace d6:=Gm C d6;replace e0:=Zd (e0.out.below C);replace d9:=Zd (d9.out.below C);replace e9:=Zd (e9.out.below C);replace e8:=Gm C e8;replace e6:=Zd (e6.out.below C);have i3:=Gn i8 C;clear i8;replace a4:=Zc C a4;replace J:=Zc C J;replace a6:=Zc C a6;replace O:=Zc C O;replace Y:=Zc C Y;replace a7:=Zc C a7;replace U:=Zc C U;replace a5:=Zc C a5;replace T:=Zc C T;replace d0:=Zc C d0;replace d1:=Zc C d1;replace d2:=Zc C d2;replace d3:=Zc C d3;clear C;replace c9:=Zd c9;replace g5:=Zd g5;refine hK.out _ _ (λ_=>⟨a4,J,a6,O,Y,a7,U,a5,T,d0,d1,d2,d3⟩) ?_;clear hK K
     try simp only[Qa,Zg9,Zgn,Zg3,Gr,Gq,Gp]
     have d4:=Zd (FL.sing1 c9.out d9.out);have szz:Sm (zV AQ n X k):=hS.out.a k k (Qu _) d7;have q6:dQ AQ k≠0:=hp.out.ne d7;refine wpAnyL_o 4 λK hK=>?_;go_simp;refine(Zcs an aA ak ac am aB aj ad _ (some ⟨s7,0,none⟩) 1 1 [zV AQ n X k] s1 d9.out d4.out Gj (Zes szz) (Zfm szz)).mono ?_;rintro e s4 ⟨o,pn,pA,pk,pc,pm,pB,pj,pd,rfl,pf⟩;replace d5:=Gn d5 o;replace c6:=Gm o c6;replace d6:=Gm o d6;replace e0:=Zd (e0.out.below o);replace d9:=Zd (d9.out.below o);replace e9:=Zd (e9.out.below o);replace e8:=Gm o e8;replace e6:=Zd (e6.out.below o);replace c9:=Gm o c9;replace d4:=Zd (d4.out.below o);have i0:=Gn i3 o;clear i3;replace a4:=Zc o a4;replace J:=Zc o J;replace a6:=Zc o a6;replace O:=Zc o O;replace Y:=Zc o Y;replace a7:=Zc o a7;replace U:=Zc o U;replace a5:=Zc o a5;replace T:=Zc o T;replace d0:=Zc o d0;replace d1:=Zc o d1;replace d2:=Zc o d2;replace d3:=Zc o d3;clear o;rw[Zh4]at pf;replace pf:=Zd pf;refine hK.out _ _ (λ_=>⟨a4,J,a6,O,Y,a7,U,a5,T,d0,d1,d2,d3⟩) ?_;clear hK K
     try simp only[Qa,Zg9,Zgn,Zg3,Gr,Gq,Gp]
     refine wpAnyL_o 10 λK hK=>?_;go_simp;refine(Zsv pn pm dn dm pA pB dA dB pk pc pj pd dk dc dj dd _ _ s4 pf.out e9.out (hS.out.zz k d7) (hS.out.d k d7) q6).mono ?_;rintro e m2 ⟨c5,qn,qA,qk,qc,qm,qB,qj,qd,rfl,qf⟩;replace d5:=Gn d5 c5;replace c6:=Gm c5 c6;replace d6:=Gm c5 d6;replace e0:=Zd (e0.out.below c5);replace d9:=Zd (d9.out.below c5);replace e9:=Zd (e9.out.below c5);replace e8:=Gm c5 e8;replace e6:=Zd (e6.out.below c5);replace c9:=Gm c5 c9;replace d4:=Zd (d4.out.below c5);replace pf:=Zd (pf.out.below c5);have i7:=Gn i0 c5;clear i0;replace a4:=Zc c5 a4;replace J:=Zc c5 J;replace a6:=Zc c5 a6;replace O:=Zc c5 O;replace Y:=Zc c5 Y;replace a7:=Zc c5 a7;replace U:=Zc c5 U;replace a5:=Zc c5 a5;replace T:=Zc c5 T;replace d0:=Zc c5 d0;replace d1:=Zc c5 d1;replace d2:=Zc c5 d2;replace d3:=Zc c5 d3;clear c5;replace qf:=Zd qf;refine hK.out _ _ (λ_=>⟨a4,J,a6,O,Y,a7,U,a5,T,d0,d1,d2,d3⟩) ?_;clear hK K
     try simp only[Qa,Zg9,Zgn,Zg3,Gr,Gq,Gp]
     obtain⟨r5,g1⟩:=Gz m2.heap.size;obtain⟨p3,k1,f6,h⟩:=Zaq (w:=m2) 73 #[.bool sn,.slice sA sk sc,.bool sm,.slice sB sj sd,.bool qn,.slice qA qk qc,.bool qm,.slice qB qj qd];rw[g1]at f6;refine wpAnyL_o 11 λK hK=>?_;go_simp;(try rw[g1]);(try rw[k1]);clear k1;replace d5:=Gn d5 h;replace c6:=Gm h c6;replace d6:=Gm h d6;replace e0:=Zd (e0.out.below h);replace d9:=Zd (d9.out.below h);replace e9:=Zd (e9.out.below h);replace e8:=Gm h e8;replace e6:=Zd (e6.out.below h);replace c9:=Gm h c9;replace d4:=Zd (d4.out.below h);replace pf:=Zd (pf.out.below h);replace qf:=Zd (qf.out.below h);have i1:=Gn i7 h;clear i7;replace a4:=Zc h a4;replace J:=Zc h J;replace a6:=Zc h a6;replace O:=Zc h O;replace Y:=Zc h Y;replace a7:=Zc h a7;replace U:=Zc h U;replace a5:=Zc h a5;replace T:=Zc h T;replace d0:=Zc h d0;replace d1:=Zc h d1;replace d2:=Zc h d2;replace d3:=Zc h d3;clear h;replace f6:=Zd f6;replace g1:=Zd g1;refine hK.out _ _ (λ_=>⟨a4,J,a6,O,Y,a7,U,a5,T,d0,d1,d2,d3⟩) ?_;clear hK K
     try simp only[Qa,Zg9,Zgn,Zg3,Gr,Gq,Gp]
     have l7:=Zd (FL.pair2 f6.out e0.out qf.out);refine wpAnyL_o 12 λK hK=>?_;go_simp;refine(Zrf (some ⟨r5,0,none⟩) 2 2 [_,_] p3 l7.out Gj (Zqv (hS.out.s k Gk)) (Zt2 (hS.out.s k Gk) (hS.out.q k d7))).mono ?_;rintro e j2 ⟨f,rn,rA,rk,rc,rm,rB,rj,rd,rfl,rf⟩;replace d5:=Gn d5 f;replace c6:=Gm f c6;replace d6:=Gm f d6;replace e0:=Zd (e0.out.below f);replace d9:=Zd (d9.out.below f);replace e9:=Zd (e9.out.below f);replace e8:=Gm f e8;replace e6:=Zd (e6.out.below f);replace c9:=Gm f c9;replace d4:=Zd (d4.out.below f);replace pf:=Zd (pf.out.below f);replace qf:=Zd (qf.out.below f);replace f6:=Gm f f6;replace l7:=Zd (l7.out.below f);have υ6:=Gn i1 f;clear i1;replace a4:=Zc f a4;replace J:=Zc f J;replace a6:=Zc f a6;replace O:=Zc f O;replace Y:=Zc f Y;replace a7:=Zc f a7;replace U:=Zc f U;replace a5:=Zc f a5;replace T:=Zc f T;replace d0:=Zc f d0;replace d1:=Zc f d1;replace d2:=Zc f d2;replace d3:=Zc f d3;clear f;rw[sumF2]at rf;replace rf:=Zd rf;refine hK.out _ _ (λ_=>⟨a4,J,a6,O,Y,a7,U,a5,T,d0,d1,d2,d3⟩) ?_;clear hK K
     try simp only[Qa,Zg9,Zgn,Zg3,Gr,Gq,Gp]
     obtain⟨n0,o6,n5,m6⟩:j2.frozen? ⟨g3,0,none⟩=false/\j2.frozen? ⟨g3,1,none⟩=false/\j2.frozen? ⟨g3,2,none⟩=false/\j2.frozen? ⟨g3,3,none⟩=false:=⟨c6.out.frozen 0,c6.out.frozen 1,c6.out.frozen 2,c6.out.frozen 3⟩;obtain⟨W5,i2,q5,f8,s5⟩:=Za2 rn rA rk rc rm rB rj rd c6.out;refine Zy (i:=13) rfl Gi Gi (λK hK=>?_);go_simp;(try rw[i2]);refine hK.out _ _ ?_;clear hK K
     try simp only[Qa,Zg9,Zgn,Zg3,Gr,Gq,Gp]
     have n8:Hid (Fr W5 rn rA rk rc rm rB rj rd (Za7 (k+1) (λs=>zV AQ n X s*zV AQ n X s/dQ AQ s))):=Zd (rf.out.keptN f8 c6.out (Zbf _ _ _ _ _ _ _ _));have j9:Hid (Kept (λq=>q=g3) V5 W5):=Zd (Kept.trans e6.out f8);have m5:=t6.out.kept d5.out;have r8:Hid (OwnF 73 W5 V5.heap.size (.slice t4 (k+1) t3) (zL AQ n X (k+1))):=Zd (m5.keptG c6.out (Zbf _ _ _ _ _ _ _ _) (λe=>by have:=m5.row_ge g3 e;omega) f8);have o7:=Zd q5;clear n0 o6 n5 m6 i2 f8 s5 q5 rf pf qf e0 d9 c6 d6 d4 l7 c9 f6 szz q6 m5;refine wpAnyL_fin ?_;clear a4 J a6 O Y a7 U a5 T d0 d1 d2 d3;go_wp2_with fail
     go_roundg (n-(k+1))
     case measure=>omega
     case rel=>exact⟨k+1,_,_,_,_,_,_,_,_,by omega,by go_num,r8,o7,n8,j9⟩
def Zg0(sg:Int)(m s:Rat)(z:Int):Bool:=if 0<sg then decide ((z:Rat)-m<=0) || decide (((z:Rat)-m)*((z:Rat)-m)<=s)else decide ((z:Rat)-m<=0) && decide (s<=((z:Rat)-m)*((z:Rat)-m))
theorem Zm3{q:Rat}:Zco q.num 0<=0 ↔ q<=0:=by
 have h:(0:Rat)<q ↔ 0<q.num:=⟨λh=>by
  have h1:q.num≠0:=λe=>by rw[Rat.num_eq_zero.1 e]at h;exact absurd h Gj
  have h2:=Rat.num_nonneg.2 (Qt h);omega,λh=>by
  have h1:0<=q:=Rat.num_nonneg.1 Gk;refine Rat.lt_of_le_of_ne h1 (λe=>?_);rw[<- e]at h;exact absurd h Gj⟩
 unfold Zco;rw[<- Rat.not_lt,h]
 split
 ·constructor <;> intro _ <;> omega
 split
 ·constructor <;> intro h1 <;> omega
 constructor <;> intro _ <;> omega
theorem Zvq{q:Rat}:0<=Zco q.num 0 ↔ 0<=q:=by
 rw[<- Rat.num_nonneg];unfold Zco
 split
 ·constructor <;> intro h1 <;> omega
 split
 ·constructor <;> intro h1 <;> omega
 constructor <;> intro h1 <;> omega
theorem Fi{G:Prop}(h:G:=by
 constructor
 ·intro h
  have h2:=Rat.add_le_add_right (c:=b) |>.2 h;rw[Rat.zero_add]at h2;have e:a-b+b=a:=by grind
  rw[e]at h2;exact h2
 intro h;have h2:=Rat.add_le_add_right (c:=-b) |>.2 h;have e:b+-b=0:=by grind
 have e2:a+-b=a-b:=by grind
 rw[e,e2]at h2;exact h2):G:=h
theorem Zrr{a b:Rat}:a-b<=0 ↔ a<=b:=by
 exact Fi
theorem Zr3{a b:Rat}:0<=a-b ↔ b<=a:=by
 exact Fi
theorem Fx{G:Prop}(h:G:=by
 clear aC;go_wp2_with fail;go_ret;exact⟨by rw[dr.out];rfl,ij.out⟩):G:=h
theorem Ei{G:Prop}(h:G:=by
 go_simp;exact hK.out _ _ ⟨_,rfl,(by simp only[Zah];exact⟨_,rfl,hb.size,Blk.new _ _ _⟩),(Below.refl _ _).alloc (Nat.le_refl _) _,trivial⟩):G:=h
theorem Ep{G:Prop}(h:G:=by
 exact hK.out _ _ ⟨_,rfl,(by simp only[Zah];exact⟨_,_,_,_,_,_,_,_,rfl,ar⟩),ao,trivial⟩):G:=h
theorem CI{G:Prop}(h:G:=by
 replace de:=Zd de;replace h2:=Zd h2;have dr:Hid (Zg0 sg mq sq z=true):=Zd (by rw[aC.out,bE.out,de.out];rfl);exact Fx):G:=h
theorem CK{G:Prop}(h:G:=by
 replace de:=Zd de;replace h2:=Zd h2;have dr:Hid (Zg0 sg mq sq z=false):=Zd (by rw[aC.out,bE.out,de.out];rfl);exact Fx):G:=h
theorem Cc{G:Prop}(h:G:=by
 rintro e w5 ⟨ao,fn,fA,fk,fc,fm,fB,fj,fd,rfl,ar⟩;exact Ep):G:=h
theorem Zti(wn:Bool)(wA:Option Addr)(wk wc:Nat)(z:Int)(gm gs gp:Nat)(mn:Bool)(mA:Option Addr)(mk mc:Nat)(mm:Bool)(mB:Option Addr)(mj md:Nat)(sn:Bool)(sA:Option Addr)(sk sc:Nat)(sm:Bool)(sB:Option Addr)(sj sd:Nat)(sg:Int)(mq sq:Rat)(w:World)(hz:Wd w wn wA wk wc z)(hm:Blk w gm 73 #[.bool mn,.slice mA mk mc,.bool mm,.slice mB mj md])(a9:Fr w mn mA mk mc mm mB mj md mq)(hs:Blk w gs 73 #[.bool sn,.slice sA sk sc,.bool sm,.slice sB sj sd])(a6:Fr w sn sA sk sc sm sB sj sd sq)(hp:Blk w gp 3 #[.int .i64 sg])
    (k1:Sm (z:Rat)) (k2:Sm mq) (k3:Sm ((z:Rat)-mq)) (k4:Sm (((z:Rat)-mq)*((z:Rat)-mq))) (k5:Sm sq) :
    Calls Tryz.prog 117 #[.agg #[.bool wn,.slice wA wk wc],.pointer (some ⟨gm,0,none⟩),.pointer (some ⟨gs,0,none⟩),.pointer (some ⟨gp,0,none⟩)] w λe w'=>e=.returned (.bool (Zg0 sg mq sq z))/\Below w.heap.size w w':=by
 obtain⟨iN,hi,n3,o7,o2⟩:=info_parts Zl5;have hmx:=Gt;obtain⟨d,hd⟩:=Gz ((z:Rat)-mq);have h9:Hid (Zg0 sg mq sq z=if 0<sg then decide (d<=0) || decide (d*d<=sq)else decide (d<=0) && decide (sq<=d*d)):=Zd (by rw[<- hd];rfl);rw[hd]at k3 k4;replace hd:=Zd hd;replace k1:=Zd k1;replace k2:=Zd k2;replace k3:=Zd k3;replace k4:=Zd k4;replace k5:=Zd k5;obtain⟨V0,j3,q4,b2⟩:=Zaq (w:=w) 39 #[.bool wn,.slice wA wk wc];obtain⟨g4,g9⟩:=Gz w.heap.size;rw[g9]at q4;replace hz:=Zd (hz.below b2);replace hm:=Zd (Ze b2 hm);replace a9:=Zd (a9.below b2);replace hs:=Zd (Ze b2 hs);replace a6:=Zd (a6.below b2);replace hp:=Zd (Ze b2 hp);replace b2:=Zd b2;replace q4:=Zd q4;go_in;go_wp2_with fail;(try rw[j3]);(try rw[g9]);clear j3;replace g9:=Zd g9;have h0:V0.cell? ⟨g4,0,none⟩=some (.bool wn):=q4.out.cell 0;have g2:V0.cell? ⟨g4,1,none⟩=some (.slice wA wk wc):=q4.out.cell 1;have b3:Hid (∀ wx,Below V0.heap.size V0 wx->(wx.cell? ⟨g4,0,none⟩=some (.bool wn))/\(wx.cell? ⟨g4,1,none⟩=some (.slice wA wk wc))):=Zd (λwx o=>⟨Zc o h0,Zc o g2⟩);have a0:Below V0.heap.size V0 V0.drew:=Zh (Qb _ _) 1;refine wp_heldS [] hmx b3 a0 (λhxs1=>?_);refine Zkb 1 [0] rfl Gi (b3.out _ a0) ?_
 (refine tkA ?_;try simp only[Qa,Zg9,Zgn,Zg3,Gr,Gq,Gp])
 refine tk0 ?_;refine Za5 [(1,12),(2,13),(3,10),(4,14),(6,6)] (λi=>match i with|3=>[5]|_=>[]) [(1,12),(2,13),(3,10),(5,15),(4,14),(6,6)] (Zah [(1,nmT 1),(2,frP (z:Rat)),(3,frP (z:Rat)),(5,isV (.int .i64 0)),(4,frV (z:Rat)),(6,Zq4 V0.heap.size 41 #[.bool false,.slice none 0 0,.bool false,.slice none 0 0])]) 2 Gi (λp _=>Zdy (Zw Zx8 (Zw Zo5 (Zw Zo5 (Zw Zxu (Zw Zbc (Zw Zcy Zej)))))) p.1) (λwx h=>b3.out _ (Gs a0 h)) ?hop1 ?hfin1
 case hop1 =>
  intro p hp;simp only[List.mem_cons,Qv,or_false]at hp;simp only[Qj,Qk,Zaj,Qa,Zg9,Zgn,Zg3];rcases hp with rfl|rfl|rfl|rfl|rfl
  ·intro ν wx hb hP
   have o:=Gs a0 hb;refine Zn (i:=1) rfl (λK hK=>?_);go_simp;refine(Zb3 1 wx Gj Gj).mono ?_;rintro e w5 ⟨ao,n5,A5,n2,c5,rfl,ar⟩;obtain rfl:n5=false:=by rw[ar.1];decide
   exact hK.out _ _ ⟨_,rfl,(by simp only[Zah];exact⟨_,_,_,rfl,ar⟩),ao,trivial⟩
  ·intro ν wx hb hP
   have o:=Gs a0 hb;have h1:=hP (1,12) Gh Gi;simp only[Zah]at h1;obtain⟨l9,k7,m1,hν1,l2⟩:=h1;rw[hν1];refine Zn (i:=2) rfl (λK hK=>?_);go_simp;refine(Zgj wn wA l9 wk wc k7 m1 z 1 wx (hz.out.below o) l2 Gj).mono ?_;rintro e w5 ⟨ao,fn,fA,fk,fc,fm,fB,fj,fd,rfl,ar⟩;rw[Ztm]at ar;exact Ep
  ·intro ν wx hb hP
   have o:=Gs a0 hb;have h2:=hP (2,13) Gh Gi;simp only[Zah]at h2;obtain⟨j0,j6,j2,j8,k0,j5,i7,j1,hν2,i4⟩:=h2;rw[hν2];refine Zn (i:=3) rfl (λK hK=>?_);go_simp;refine hK.out _ _ ⟨_,rfl,(by simp only[Zah];exact⟨_,_,_,_,_,_,_,_,rfl,i4⟩),Qb _ _,?_⟩;exact⟨_,.int .i64 0,rfl,Or.inl ⟨by kernel_rfl,λW2 _=>by go_simp⟩,by simp[Zah,isV],trivial⟩
  ·intro ν wx hb hP
   have o:=Gs a0 hb;have h3:=hP (3,10) Gh Gi;simp only[Zah]at h3;obtain⟨n8,o0,n1,m7,n7,o9,m9,o3,hν3,m3⟩:=h3;rw[hν3];refine Zn (i:=4) rfl (λK hK=>?_);go_simp;exact hK.out _ _ ⟨_,rfl,(by simp only[Zah];exact⟨_,_,_,_,_,_,_,_,rfl,m3⟩),Qb _ _,trivial⟩
  intro ν wx hb hP;have o:=Gs a0 hb;refine Zn (i:=6) rfl (λK hK=>?_);exact Ei
 case hfin1 =>
  intro ν wx hb hP;have h1:=hP (1,12) Gh;simp only[Zah]at h1;obtain⟨m6,n9,n0,hν1,-⟩:=h1;have h2:=hP (2,13) Gh;simp only[Zah]at h2;obtain⟨l0,m0,l8,l6,l7,l3,m4,m5,hν2,-⟩:=h2;have h3:=hP (3,10) Gh;simp only[Zah]at h3;obtain⟨m8,n6,o6,o5,o4,n4,o1,p0,hν3,-⟩:=h3;have h5:=hP (5,15) Gh;simp only[Zah]at h5;have hν5:ν 15=_:=h5;clear h5;have h4:=hP (4,14) Gh;simp only[Zah]at h4;obtain⟨h7,h8,f6,g8,f4,f8,g6,g7,hν4,k6⟩:=h4;have h6:=hP (6,6) Gh;simp only[Zah]at h6;obtain⟨b6,hν6,i9,i3⟩:=h6;simp only[Qj,Qk,Zaj,Qa,Zg9,Zgn,Zg3];rw[hν1,hν2,hν3,hν5,hν4,hν6];clear hν1 hν2 hν3 hν5 hν4 hν6 hP ν;have o:=Gs a0 hb;have a5:=i3.four;have d3:V0.heap.size<=b6:=i9;refine(Z5 h7 h8 f6 g8 f4 f8 g6 g7 o d3 i3).elim (λZ1 hq=>?_);have c0:=a5.1;have i6:=a5.2.1;have i1:=a5.2.2.1;have c3:=a5.2.2.2.1;have f0:=a5.2.2.2.2.1;have f1:=a5.2.2.2.2.2.1;have f2:=a5.2.2.2.2.2.2.1;have f3:=a5.2.2.2.2.2.2.2;have hZ:=hq.1;refine wpAnyL_o 7 λK hK=>?_;go_simp;(try rw[hZ]);refine hK.out _ _ (λ_=>b3.out _ hq.2.1) ?_;clear hK K
  try simp only[Qa,Zg9,Zgn,Zg3,Gr,Gq,Gp]
  refine Zgo 1 [8] rfl Gi (b3.out _ hq.2.1) ?_
  (refine tkA ?_;try simp only[Qa,Zg9,Zgn,Zg3,Gr,Gq,Gp])
  refine tk0 ?_;refine wpAnyL_fin ?_;have a7:=hq.2.1;have b5:=hq.2.2.1;have d9:=Fr.keep k6 hq.2.2.2.1;have m2:=Zd d3;clear hq hZ c0 i6 i1 c3 f0 f1 f2 f3 a5 i3 i9 d3 o hb a0 b3 hxs1 k6;replace hz:=Zd (hz.out.below a7);replace hm:=Gm a7 hm;replace a9:=Zd (a9.out.below a7);replace hs:=Gm a7 hs;replace a6:=Zd (a6.out.below a7);replace hp:=Gm a7 hp;replace q4:=Gm a7 q4;have i2:=Gn b2 a7;clear b2;replace h0:=Zc a7 h0;replace g2:=Zc a7 g2;clear a7 h0 g2;replace b5:=Zd b5;replace d9:=Zd d9;go_wp2_with fail;have g1:Z1.cell? ⟨b6,0,none⟩=some (.bool h7):=b5.out.cell 0;have g0:Z1.cell? ⟨b6,1,none⟩=some (.slice h8 f6 g8):=b5.out.cell 1;have g5:Z1.cell? ⟨b6,2,none⟩=some (.bool f4):=b5.out.cell 2;have f9:Z1.cell? ⟨b6,3,none⟩=some (.slice f8 g6 g7):=b5.out.cell 3;have f5:Z1.cell? ⟨gm,0,none⟩=some (.bool mn):=hm.out.cell 0;have d7:Z1.cell? ⟨gm,1,none⟩=some (.slice mA mk mc):=hm.out.cell 1;have d5:Z1.cell? ⟨gm,2,none⟩=some (.bool mm):=hm.out.cell 2;have d8:Z1.cell? ⟨gm,3,none⟩=some (.slice mB mj md):=hm.out.cell 3
  have b9:Hid (∀ wx,Below Z1.heap.size Z1 wx->(wx.cell? ⟨b6,0,none⟩=some (.bool h7))/\(wx.cell? ⟨b6,1,none⟩=some (.slice h8 f6 g8))/\(wx.cell? ⟨b6,2,none⟩=some (.bool f4))/\(wx.cell? ⟨b6,3,none⟩=some (.slice f8 g6 g7))/\(wx.cell? ⟨gm,0,none⟩=some (.bool mn))/\(wx.cell? ⟨gm,1,none⟩=some (.slice mA mk mc))/\(wx.cell? ⟨gm,2,none⟩=some (.bool mm))/\(wx.cell? ⟨gm,3,none⟩=some (.slice mB mj md))):=Zd (λwx o=>⟨Zc o g1,Zc o g0,Zc o g5,Zc o f9,Zc o f5,Zc o d7,Zc o d5,Zc o d8⟩);have a4:Below Z1.heap.size Z1 Z1.drew:=Zh (Qb _ _) 1;refine wp_heldS [] hmx b9 a4 (λhxs2=>?_);refine Zkb 3 [0,1,3] rfl Gi (b9.out _ a4) ?_
  iterate 3 (refine tkA ?_;try simp only[Qa,Zg9,Zgn,Zg3,Gr,Gq,Gp])
  refine tk0 ?_;refine Za5 [(2,18),(4,20),(5,8)] (λ_=>[]) [(2,18),(4,20),(5,8)] (Zah [(2,frV (z:Rat)),(4,frV d),(5,Zq4 Z1.heap.size 73 #[.bool false,.slice none 0 0,.bool false,.slice none 0 0])]) 1 Gi (λp _=>Zdy (Zw Zbc (Zw Zbc (Zw Zcy Zej))) p.1) (λwx h=>b9.out _ (Gs a4 h)) ?hop2 ?hfin2
  case hop2 =>
   intro p hp;simp only[List.mem_cons,Qv,or_false]at hp;simp only[Qj,Qk,Zaj,Qa,Zg9,Zgn,Zg3];rcases hp with rfl|rfl|rfl
   ·intro ν wx hb hP
    have o:=Gs a4 hb;refine Zn (i:=2) rfl (λK hK=>?_);go_simp;refine(Zf8 h7 f4 h8 f8 f6 g8 g6 g7 _ wx (d9.out.below o)).mono ?_;exact Cc
   ·intro ν wx hb hP
    have o:=Gs a4 hb;have h2:=hP (2,18) Gh Gi;simp only[Zah]at h2;obtain⟨j0,j6,j2,j8,k0,j5,i7,j1,hν2,i4⟩:=h2;rw[hν2];refine Zn (i:=4) rfl (λK hK=>?_);go_simp;refine(Ze3 j0 k0 mn mm j6 j5 mA mB j2 j8 i7 j1 mk mc mj md _ _ wx i4 (a9.out.below o) k1.out k2.out).mono ?_;rintro e w5 ⟨ao,fn,fA,fk,fc,fm,fB,fj,fd,rfl,ar⟩;rw[hd.out]at ar;exact Ep
   intro ν wx hb hP;have o:=Gs a4 hb;refine Zn (i:=5) rfl (λK hK=>?_);exact Ei
  case hfin2 =>
   intro ν wx hb hP;have h2:=hP (2,18) Gh;simp only[Zah]at h2;obtain⟨l0,m0,l8,l6,l7,l3,m4,m5,hν2,-⟩:=h2;have h4:=hP (4,20) Gh;simp only[Zah]at h4;obtain⟨c4,c7,c9,c2,d0,c6,c1,c8,hν4,i8⟩:=h4;have h5:=hP (5,8) Gh;simp only[Zah]at h5;obtain⟨b4,hν5,j7,i5⟩:=h5;simp only[Qj,Qk,Zaj,Qa,Zg9,Zgn,Zg3];rw[hν2,hν4,hν5];clear hν2 hν4 hν5 hP ν;have o:=Gs a4 hb;have a5:=i5.four;have d3:Z1.heap.size<=b4:=j7;refine(Z5 c4 c7 c9 c2 d0 c6 c1 c8 o d3 i5).elim (λZ2 hq=>?_);have c0:=a5.1;have i6:=a5.2.1;have i1:=a5.2.2.1;have c3:=a5.2.2.2.1;have f0:=a5.2.2.2.2.1;have f1:=a5.2.2.2.2.2.1;have f2:=a5.2.2.2.2.2.2.1;have f3:=a5.2.2.2.2.2.2.2;have hZ:=hq.1;refine wpAnyL_o 6 λK hK=>?_;go_simp;(try rw[hZ]);refine hK.out _ _ (λ_=>b9.out _ hq.2.1) ?_;clear hK K
   try simp only[Qa,Zg9,Zgn,Zg3,Gr,Gq,Gp]
   refine wpAnyL_fin ?_;have f:=hq.2.1;have a8:=hq.2.2.1;have b0:=Fr.keep i8 hq.2.2.2.1;have l5:=Zd d3;clear hq hZ c0 i6 i1 c3 f0 f1 f2 f3 a5 i5 j7 d3 o hb a4 b9 hxs2 i8;replace hz:=Zd (hz.out.below f);replace hm:=Gm f hm;replace a9:=Zd (a9.out.below f);replace hs:=Gm f hs;replace a6:=Zd (a6.out.below f);replace hp:=Gm f hp;replace q4:=Gm f q4;replace b5:=Gm f b5;replace d9:=Zd (d9.out.below f);have e8:=Gn i2 f;clear i2;replace g1:=Zc f g1;replace g0:=Zc f g0;replace g5:=Zc f g5;replace f9:=Zc f f9;replace f5:=Zc f f5;replace d7:=Zc f d7;replace d5:=Zc f d5;replace d8:=Zc f d8;clear f g1 g0 g5 f9 f5 d7 d5 d8;replace a8:=Zd a8;replace b0:=Zd b0;clear d9 b5 hz k1 k2;go_wp2_with fail;have u:Z2.cell? ⟨b4,0,none⟩=some (.bool c4):=a8.out.cell 0;have y:Z2.cell? ⟨b4,1,none⟩=some (.slice c7 c9 c2):=a8.out.cell 1;have Y:Z2.cell? ⟨b4,2,none⟩=some (.bool d0):=a8.out.cell 2;have O:Z2.cell? ⟨b4,3,none⟩=some (.slice c6 c1 c8):=a8.out.cell 3;have U:Z2.cell? ⟨gs,0,none⟩=some (.bool sn):=hs.out.cell 0;have J:Z2.cell? ⟨gs,1,none⟩=some (.slice sA sk sc):=hs.out.cell 1;have I:Z2.cell? ⟨gs,2,none⟩=some (.bool sm):=hs.out.cell 2;have T:Z2.cell? ⟨gs,3,none⟩=some (.slice sB sj sd):=hs.out.cell 3
   have C:Below Z2.heap.size Z2 Z2.drew:=Zh (Qb _ _) 1;replace hm:=Gm C hm;replace a9:=Zd (a9.out.below C);replace hs:=Gm C hs;replace a6:=Zd (a6.out.below C);replace hp:=Gm C hp;replace q4:=Gm C q4;replace a8:=Gm C a8;replace b0:=Zd (b0.out.below C);have e7:=Gn e8 C;clear e8;replace u:=Zc C u;replace y:=Zc C y;replace Y:=Zc C Y;replace O:=Zc C O;replace U:=Zc C U;replace J:=Zc C J;replace I:=Zc C I;replace T:=Zc C T;clear C;refine Zz [] (λwx=>(wx.cell? ⟨b4,0,none⟩=some (.bool c4))/\(wx.cell? ⟨b4,1,none⟩=some (.slice c7 c9 c2))/\(wx.cell? ⟨b4,2,none⟩=some (.bool d0))/\(wx.cell? ⟨b4,3,none⟩=some (.slice c6 c1 c8))/\(wx.cell? ⟨gs,0,none⟩=some (.bool sn))/\(wx.cell? ⟨gs,1,none⟩=some (.slice sA sk sc))/\(wx.cell? ⟨gs,2,none⟩=some (.bool sm))/\(wx.cell? ⟨gs,3,none⟩=some (.slice sB sj sd))) hmx ⟨u,y,Y,O,U,J,I,T⟩ (λ_=>?_);refine Zkb 3 [0,1,4] rfl Gi ⟨u,y,Y,O,U,J,I,T⟩ ?_
   iterate 3 (refine tkA ?_;try simp only[Qa,Zg9,Zgn,Zg3,Gr,Gq,Gp])
   refine tk0 ?_;obtain⟨k9,d6⟩:=Gz Z2.drew.heap.size;obtain⟨l1,i0,b1,V⟩:=Zaq (w:=Z2.drew) 73 #[.bool c4,.slice c7 c9 c2,.bool d0,.slice c6 c1 c8];rw[d6]at b1;refine wpAnyL_o 2 λK hK=>?_;go_simp;(try rw[d6]);(try rw[i0]);clear i0;replace hm:=Gm V hm;replace a9:=Zd (a9.out.below V);replace hs:=Gm V hs;replace a6:=Zd (a6.out.below V);replace hp:=Gm V hp;replace q4:=Gm V q4;replace a8:=Gm V a8;replace b0:=Zd (b0.out.below V);have e9:=Gn e7 V;clear e7;replace u:=Zc V u;replace y:=Zc V y;replace Y:=Zc V Y;replace O:=Zc V O;replace U:=Zc V U;replace J:=Zc V J;replace I:=Zc V I;replace T:=Zc V T;clear V;replace b1:=Zd b1;replace d6:=Zd d6;refine hK.out _ _ (λ_=>⟨u,y,Y,O,U,J,I,T⟩) ?_;clear hK K
   try simp only[Qa,Zg9,Zgn,Zg3,Gr,Gq,Gp]
   have b7:=Zd (FL.sing1 b1.out b0.out);refine wpAnyL_o 3 λK hK=>?_;go_simp;refine(Zcs c4 c7 c9 c2 d0 c6 c1 c8 _ (some ⟨k9,0,none⟩) 1 1 [d] l1 b0.out b7.out Gj (Zes k3.out) (Zfm k3.out)).mono ?_;rintro e l4 ⟨a3,pn,pA,pk,pc,pm,pB,pj,pd,rfl,pf⟩;replace hm:=Gm a3 hm;replace a9:=Zd (a9.out.below a3);replace hs:=Gm a3 hs;replace a6:=Zd (a6.out.below a3);replace hp:=Gm a3 hp;replace q4:=Gm a3 q4;replace a8:=Gm a3 a8;replace b0:=Zd (b0.out.below a3);replace b1:=Gm a3 b1;replace b7:=Zd (b7.out.below a3);have e4:=Gn e9 a3;clear e9;replace u:=Zc a3 u;replace y:=Zc a3 y;replace Y:=Zc a3 Y;replace O:=Zc a3 O;replace U:=Zc a3 U;replace J:=Zc a3 J;replace I:=Zc a3 I;replace T:=Zc a3 T;clear a3;rw[Zh4]at pf;replace pf:=Zd pf;refine hK.out _ _ (λ_=>⟨u,y,Y,O,U,J,I,T⟩) ?_;clear hK K
   try simp only[Qa,Zg9,Zgn,Zg3,Gr,Gq,Gp]
   refine wpAnyL_o 5 λK hK=>?_;go_simp;refine(Ze3 pn pm sn sm pA pB sA sB pk pc pj pd sk sc sj sd _ _ l4 pf.out a6.out k4.out k5.out).mono ?_;rintro e k8 ⟨a2,rn,rA,rk,rc,rm,rB,rj,rd,rfl,rf⟩;replace hm:=Gm a2 hm;replace a9:=Zd (a9.out.below a2);replace hs:=Gm a2 hs;replace a6:=Zd (a6.out.below a2);replace hp:=Gm a2 hp;replace q4:=Gm a2 q4;replace a8:=Gm a2 a8;replace b0:=Zd (b0.out.below a2);replace b1:=Gm a2 b1;replace b7:=Zd (b7.out.below a2);replace pf:=Zd (pf.out.below a2);have e5:=Gn e4 a2;clear e4;replace u:=Zc a2 u;replace y:=Zc a2 y;replace Y:=Zc a2 Y;replace O:=Zc a2 O;replace U:=Zc a2 U;replace J:=Zc a2 J;replace I:=Zc a2 I;replace T:=Zc a2 T;clear a2;replace rf:=Zd rf;refine hK.out _ _ (λ_=>⟨u,y,Y,O,U,J,I,T⟩) ?_;clear hK K
   try simp only[Qa,Zg9,Zgn,Zg3,Gr,Gq,Gp]
   refine wpAnyL_o 6 λK hK=>?_;go_simp;refine(Zh7 rn rA rk rc rm rB rj rd _ k8 rf.out).mono ?_;rintro e o8 ⟨rfl,a1⟩;replace hm:=Gm a1 hm;replace a9:=Zd (a9.out.below a1);replace hs:=Gm a1 hs;replace a6:=Zd (a6.out.below a1);replace hp:=Gm a1 hp;replace q4:=Gm a1 q4;replace a8:=Gm a1 a8;replace b0:=Zd (b0.out.below a1);replace b1:=Gm a1 b1;replace b7:=Zd (b7.out.below a1);replace pf:=Zd (pf.out.below a1);replace rf:=Zd (rf.out.below a1);have d4:=Gn e5 a1;clear e5;replace u:=Zc a1 u;replace y:=Zc a1 y;replace Y:=Zc a1 Y;replace O:=Zc a1 O;replace U:=Zc a1 U;replace J:=Zc a1 J;replace I:=Zc a1 I;replace T:=Zc a1 T;clear a1;refine hK.out _ _ (λ_=>⟨u,y,Y,O,U,J,I,T⟩) ?_;clear hK K
   try simp only[Qa,Zg9,Zgn,Zg3,Gr,Gq,Gp]
   obtain⟨r2,a4⟩:=Gz (Zco (d*d-sq).num 0);rw[a4];replace a4:=Zd a4;refine Zkb 1 [7] rfl Gi ⟨u,y,Y,O,U,J,I,T⟩ ?_
   (refine tkA ?_;try simp only[Qa,Zg9,Zgn,Zg3,Gr,Gq,Gp])
   refine tk0 ?_;refine wpAnyL_fin ?_;clear u y Y O U J I T b7 pf rf hs a6 b1 k3 k4 k5;have lp:=hp.out.cell 0;simp at lp;have j4:Hid (r2<=0 ↔ d*d<=sq):=Zd (by rw[<- a4.out,Zm3,Zrr]);have j9:Hid (0<=r2 ↔ sq<=d*d):=Zd (by rw[<- a4.out,Zvq,Zr3]);obtain⟨r1,a0⟩:=Gz (Zco d.num 0);have f7:Hid (r1<=0 ↔ d<=0):=Zd (by rw[<- a0,Zm3]);replace a0:=Zd a0;have aC:=h9.out;clear h9;obtain⟨e0,e1,e2,e3,-⟩:=a8.out.four;by_cases b8:0<sg
   case pos =>
    have t0:decide (0<sg)=true:=Gv b8;rw[Gx b8]at aC;replace aC:=Zd aC;replace b8:=Zd b8;go_wp2_with fail;refine(Zh7 c4 c7 c9 c2 d0 c6 c1 c8 _ _ b0.out).mono ?_;rintro e w9 ⟨rfl,e6⟩;rw[a0.out];have ij:=Gn d4 e6;clear e6 e0 e1 e2 e3;by_cases h1:r1<=0
    ·have t1:decide (r1<=0)=true:=Gv h1
     have bE:decide (d<=0)=true:=Gv (f7.out.1 h1);replace bE:=Zd bE;replace h1:=Zd h1;have dr:Hid (Zg0 sg mq sq z=true):=Zd (by rw[aC.out,bE.out];rfl);exact Fx
    have t1:decide (r1<=0)=false:=Gu h1;have bE:decide (d<=0)=false:=Gu (λh=>h1 (f7.out.2 h));replace bE:=Zd bE;replace h1:=Zd h1;by_cases h2:r2<=0
    ·have t2:decide (r2<=0)=true:=Gv h2
     have de:=Gv (j4.out.1 h2);exact CI
    have t2:decide (r2<=0)=false:=Gu h2;have de:=Gu (λh=>h2 (j4.out.2 h));exact CK
   case neg =>
    have t0:decide (0<sg)=false:=Gu b8;rw[Gw b8]at aC;replace aC:=Zd aC;replace b8:=Zd b8;go_wp2_with fail;refine(Zh7 c4 c7 c9 c2 d0 c6 c1 c8 _ _ b0.out).mono ?_;rintro e w9 ⟨rfl,e6⟩;rw[a0.out];have ij:=Gn d4 e6;clear e6 e0 e1 e2 e3;by_cases h1:r1<=0
    ·have t1:decide (r1<=0)=true:=Gv h1
     have bE:decide (d<=0)=true:=Gv (f7.out.1 h1);replace bE:=Zd bE;replace h1:=Zd h1;by_cases h2:0<=r2
     ·have t2:decide (0<=r2)=true:=Gv h2
      have de:=Gv (j9.out.1 h2);exact CI
     have t2:decide (0<=r2)=false:=Gu h2;have de:=Gu (λh=>h2 (j9.out.2 h));exact CK
    have t1:decide (r1<=0)=false:=Gu h1;have bE:decide (d<=0)=false:=Gu (λh=>h1 (f7.out.2 h));replace bE:=Zd bE;replace h1:=Zd h1;have dr:Hid (Zg0 sg mq sq z=false):=Zd (by rw[aC.out,bE.out];rfl);exact Fx
def IsRoot(s r:Nat):Prop:=r*r<=s/\s<(r+1)*(r+1)
theorem IsRoot.unique{s r t:Nat}(h:IsRoot s r)(k:IsRoot s t):r=t:=by
 obtain⟨h1,h2⟩:=h;obtain⟨k1,k2⟩:=k;rcases Nat.lt_trichotomy r t with h3|h3|h3
 ·have:(r+1)*(r+1)<=t*t:=Nat.mul_le_mul h3 h3
  omega
 exact h3;have:(t+1)*(t+1)<=r*r:=Nat.mul_le_mul h3 h3;omega
noncomputable def rootN (z:Nat):Nat:=@dite Nat (∃ r,IsRoot z r) (Classical.propDecidable _) (λh=>Classical.choose h) (λ_=>0)
theorem Zi1{z r:Nat}(h:IsRoot z r):rootN z=r:=by
 unfold rootN;rw[@dif_pos _ (Classical.propDecidable _) ⟨r,h⟩];exact(Classical.choose_spec (⟨r,h⟩:∃ r,IsRoot z r)).unique h
theorem Zs8(A:Option Addr)(n c u:Nat)(w:World)(hz:Wd w false A n c (u:Int)) :
    Calls Tryz.prog 122 #[.agg #[.bool false,.slice A n c],.int .i64 (-1)] w (NumE w ((u/2:Nat):Int)):=by
 have hn:=hz.2.1;obtain⟨W0,a7,O,⟨q1,q2⟩,s0⟩:=Zda w 39 #[.bool false,.slice A n c] 39 #[.bool false,.slice none 0 0];obtain⟨Y1,a2,qz,I⟩:=Zaq (w:=W0) 39 #[.bool false,.slice A n c];have C:Hid (okW false (digits u)=true):=by have h:=hz.ok;rw[Qd]at h;exact Zd h
 have b4:Hid (u<pw 4096):=by
  have h:=hz.lim.len;have h2:=(Zs (u:Int).natAbs 4096).1;rw[Qd]at h h2;exact Zd (h2 Gk)
 have o:=Zd (hz.below O)
 have a0:Hid (WL Y1 (some ⟨W0.heap.size,0,none⟩) 1 1 [⟨false,A,n,c,digits u⟩]):=Zd (by
  have h:=o.out.lim;rw[Qd]at h;rw[<- a2];exact WL.one h _)
 obtain⟨gz,a4⟩:=Gz W0.heap.size;rw[a4]at a0;obtain⟨b2,b3,-⟩:=q1.two;replace q1:=Zd (Ze I q1);replace q2:=Zd (Ze I q2);replace o:=Zd (o.out.below I);have b1:=hz.lim.2.2.1;have b7:=hz.lim.2.1;unfold maxLen at b1;have a5:=Zd (Gs O I);obtain⟨T,J,-⟩:=q1.out.two;clear hz I O;replace s0:=Zd s0;go_in;go_wp2_with fail;(try rw[a7]);(try rw[a4]);(try rw[a2]);clear a7 a2 a4 qz s0 b2 b3;refine(Zdo a0.out (by have:=C.out;simp[WE.ok,this])).mono ?_;rintro e w1 ⟨rfl,f⟩;replace q1:=Gm f q1;replace q2:=Gm f q2;replace o:=Zd (o.out.below f);have a3:=Gn a5 f;clear a5 f a0 C T J;obtain⟨T,J,-⟩:=q1.out.two;go_wp2_with fail;refine(Zow A n c 1 _ w1 o.out.lim Gj Gk).mono ?_;rintro e w3 ⟨Ah,nh,ch,oh,bh,rfl,y,a6,f⟩;replace q1:=Gm f q1;replace q2:=Gm f q2;replace o:=Zd (o.out.below f);have a1:=Gn a3 f;clear a3 f;rw[Qd,Zk]at a6;have b8:=y.2.1;have b0:=y.2.2.1;unfold maxLen at b0;have V:val oh=u/2:=by simpa using a6
 replace V:=Zd V;clear a6 T J;obtain⟨T,J,-⟩:=q1.out.two;replace y:=Zd y;clear o;go_wp2_with fail;refine(Zcb false Ah nh ch _ w3 y.out).mono ?_;rintro e w5 ⟨f,rn,rA,rk,rc,code,rfl,hP⟩;replace q1:=Gm f q1;replace q2:=Gm f q2;replace y:=Zd (y.out.below f);have b6:=Gn a1 f;clear a1 f;rw[V.out]at hP
 have Y:(sg false (u/2)).natAbs<pw 4096:=by
  show ((u/2:Nat):Int).natAbs<_;rw[Qd];exact Nat.lt_of_le_of_lt (Nat.div_le_self _ _) b4.out
 have a8:Wd w5 rn rA rk rc ((u/2:Nat):Int):=hP.small Y;obtain rfl:code=0:=hP.code0 Y;obtain⟨e0,e1,f0,f1⟩:=q2.out.two;clear hP Y;obtain⟨U,hU,b5,q3,kW,-,-⟩:=Zaz rn rA rk rc b6.out (Nat.le_succ _) q2.out;obtain⟨r0,r1,-⟩:=q3.two;have a9:=Zd (kW _ _ _ _ _ a8);clear kW a8;go_wp2_with fail;(try rw[hU]);refine bodyPost_ret (v:=.tuple #[.agg #[.bool rn,.slice rA rk rc],.int .i64 0]) (by simp[results,Tryz.results122,go_sem,r0,r1]) rfl ?_;exact⟨b5,_,_,_,_,rfl,a9.out⟩
structure EdgeP (sg:Int) (mq sq:Rat) (M:Int):Prop where
 low:∀ z:Int,-1<=z->(Zg0 sg mq sq z=true ↔ z<=M)
 m:-1<=M
 big:M<((pw 313:Nat):Int)
 sm:Sm mq
 ss:Sm sq
 z:∀ z:Int,-1<=z->z<=2*M+2->Sm (z:Rat)/\Sm ((z:Rat)-mq)/\Sm (((z:Rat)-mq)*((z:Rat)-mq))
theorem Zz2{M:Int}(h:M<((pw 313:Nat):Int)){z:Int}(h1:-1<=z)(h2:z<=8*M+64):z.natAbs<pw 4096:=by
 have h3:pw 314<=pw 4096:=Zca Gj;have h4:pw 314=4294967296*pw 313:=by rw[Za6]
 have h6:=Zby 313;generalize pw 4096=R at *;generalize pw 314=Q at *;generalize pw 313=P at *;omega
theorem cmp_le1{a b:Int}:Zco a b<=0 ↔ a<=b:=by
 unfold Zco
 split
 ·constructor <;> intro _ <;> omega
 split
 ·constructor <;> intro h1 <;> omega
 constructor <;> intro _ <;> omega
theorem Zv9(mn:Bool)(mA:Option Addr)(mk mc:Nat)(mm:Bool)(mB:Option Addr)(mj md:Nat)(sn:Bool)(sA:Option Addr)(sk sc:Nat)(sm:Bool)(sB:Option Addr)(sj sd:Nat)(sg:Int)(mq sq:Rat)(M:Int)(w:World)(o:Fr w mn mA mk mc mm mB mj md mq)(u:Fr w sn sA sk sc sm sB sj sd sq)(hE:EdgeP sg mq sq M) :
    Calls Tryz.prog 72 #[.agg #[.bool mn,.slice mA mk mc,.bool mm,.slice mB mj md],.agg #[.bool sn,.slice sA sk sc,.bool sm,.slice sB sj sd],.int .i64 sg] w (NumW w M):=by
 have hmx:=Gt;have o1:∀ (fn:Fn) (first cap:Array Value) (w:World),(Instr.makeFunc fn first cap).run Tryz.prog w=.ok (.func fn first cap) w:=λ_ _ _ _=>rfl;have e9:Hid (∀ z:Int,-1<=z->z<=8*M+64->z.natAbs<pw 4096):=Zd (λz h1 h2=>Zz2 hE.big h1 h2);have n7:=hE.m;replace hE:=Zd hE;obtain⟨W0,l7,g1,⟨qm,qs,qp,qr⟩,s0⟩:=Zfr w 73 #[.bool mn,.slice mA mk mc,.bool mm,.slice mB mj md] 73 #[.bool sn,.slice sA sk sc,.bool sm,.slice sB sj sd] 3 #[.int .i64 sg] 39 #[.bool false,.slice none 0 0];replace o:=Zd (o.below g1);replace u:=Zd (u.below g1);replace qm:=Zd qm;replace qs:=Zd qs;replace qp:=Zd qp;replace qr:=Zd qr;replace g1:=Zd g1;replace s0:=Zd s0;go_in;go_wp2_with fail;(try rw[l7]);clear l7;refine(Zb3 (-1) W0 Gj Gj).mono ?_;rintro e w1 ⟨f,ln,lA,lk,lc,rfl,lf⟩;replace o:=Zd (o.out.below f);replace u:=Zd (u.out.below f);replace qm:=Gm f qm;replace qs:=Gm f qs;replace qp:=Gm f qp;replace qr:=Gm f qr;have k5:=Gn g1 f;clear g1 f;replace lf:=Zd lf;go_wp2_with fail;refine(Zb3 1 w1 Gj Gj).mono ?_;rintro e w3 ⟨f,tn,tA,tk,tc,rfl,tf⟩;replace o:=Zd (o.out.below f);replace u:=Zd (u.out.below f);replace qm:=Gm f qm;replace qs:=Gm f qs;replace qp:=Gm f qp;replace qr:=Gm f qr;replace lf:=Zd (lf.out.below f);have k4:=Gn k5 f;clear k5 f;replace tf:=Zd tf;have n8:Hid (w.heap.size+1+1+1<w3.heap.size):=Zd qr.out.lt
 obtain⟨V5,l5,d8,⟨q8,q9⟩,s2⟩:=Zda w3 39 #[.bool ln,.slice lA lk lc] 39 #[.bool tn,.slice tA tk tc];obtain⟨g8,j9⟩:=Gz w3.heap.size;rw[j9]at q8 q9 n8;have n9:Hid (g8<g8+1):=Zd (Nat.lt_succ_self _);replace s2:=Zd s2;replace o:=Zd (o.out.below d8);replace u:=Zd (u.out.below d8);replace qm:=Gm d8 qm;replace qs:=Gm d8 qs;replace qp:=Gm d8 qp;replace qr:=Gm d8 qr;replace lf:=Zd (lf.out.below d8);replace tf:=Zd (tf.out.below d8);have k7:=Gn k4 d8;clear k4 d8;replace q8:=Zd q8;replace q9:=Zd q9;obtain⟨x0,x1,-⟩:=q8.out.two;obtain⟨υ0,υ1,-⟩:=q9.out.two;go_wp2_with fail;(try rw[j9]);(try rw[l5]);clear l5;replace j9:=Zd j9;clear x0 x1 υ0 υ1;refine(Zk9 ln tn lA tA lk lc tk tc (-1) 1 V5 lf.out tf.out).mono ?_;rintro e w7 ⟨f,hn,hA,hk,hc,cd,rfl,hP⟩;replace o:=Zd (o.out.below f);replace u:=Zd (u.out.below f);replace qm:=Gm f qm;replace qs:=Gm f qs;replace qp:=Gm f qp;replace qr:=Gm f qr;replace lf:=Zd (lf.out.below f);replace tf:=Zd (tf.out.below f);replace q8:=Gm f q8;replace q9:=Gm f q9;have k8:=Gn k7 f;clear k7 f;have a7:=e9.out (-1+1) Gk Gk;have hf:Wd w7 hn hA hk hc (-1+1):=hP.small a7;obtain rfl:cd=0:=hP.code0 a7;clear hP a7;replace hf:=Zd hf;have a5:Hid ((g8+1)<w7.heap.size):=Zd q9.out.lt
 obtain⟨g9,e8⟩:=Gz w7.heap.size;obtain⟨o2,k1,j1,a6⟩:=Zaq (w:=w7) 39 #[.bool hn,.slice hA hk hc];rw[e8]at j1;replace o:=Zd (o.out.below a6);replace u:=Zd (u.out.below a6);replace qm:=Gm a6 qm;replace qs:=Gm a6 qs;replace qp:=Gm a6 qp;replace qr:=Gm a6 qr;replace lf:=Zd (lf.out.below a6);replace tf:=Zd (tf.out.below a6);replace q8:=Gm a6 q8;replace q9:=Gm a6 q9;replace hf:=Zd (hf.out.below a6);have k2:=Gn k8 a6;clear k8 a6;replace j1:=Zd j1;rw[e8]at a5;go_wp2_with fail;(try rw[e8]);(try rw[k1]);clear k1;replace e8:=Zd e8
 go_loopg [] (M+1).toNat (λx wr=>∃ (lo st hi:Int) (ln:Bool) (lA:Option Addr) (lk lc:Nat) (tn:Bool) (tA:Option Addr) (tk tc:Nat) (hn:Bool) (hA:Option Addr) (hk hc:Nat),Hid (x=(M-lo).toNat)/\lo=st-2/\1<=st/\hi=lo+st/\lo<=M/\-1<=lo/\Hid (Blk wr g8 39 #[.bool ln,.slice lA lk lc])/\Hid (Blk wr (g8+1) 39 #[.bool tn,.slice tA tk tc])/\Hid (Blk wr g9 39 #[.bool hn,.slice hA hk hc])/\Hid (Wd wr ln lA lk lc lo)/\Hid (Wd wr tn tA tk tc st)/\Hid (Wd wr hn hA hk hc hi)/\Hid (Blk wr w.heap.size 73 #[.bool mn,.slice mA mk mc,.bool mm,.slice mB mj md])/\Hid (Blk wr (w.heap.size+1) 73 #[.bool sn,.slice sA sk sc,.bool sm,.slice sB sj sd])/\Hid (Blk wr (w.heap.size+1+1) 3 #[.int .i64 sg])/\Hid (Blk wr (w.heap.size+1+1+1) 39 #[.bool false,.slice none 0 0])/\Hid (Fr wr mn mA mk mc mm mB mj md mq)/\Hid (Fr wr sn sA sk sc sm sB sj sd sq)/\Hid (Below w.heap.size w wr))
 case atStart=>exact⟨-1,1,0,_,_,_,_,_,_,_,_,_,_,_,_,Zd Gk,by omega,by omega,by omega,by omega,by omega,q8,q9,j1,lf,tf,hf,qm,qs,qp,qr,o,u,k2⟩
 case round =>
  clear q8 q9 j1 lf tf hf qm qs qp qr o u k2;obtain⟨wi,rfl⟩:=Gy wr;obtain⟨lo,st,hi,ln,lA,lk,lc,tn,tA,tk,tc,hn,hA,hk,hc,g5,m2,m3,m4,k0,j8,q8,q9,y,lf,tf,hf,qm,qs,qp,qr,o,u,f5⟩:=hrel;obtain⟨y0,y1,-⟩:=y.out.two;go_wp2_with fail;clear y0 y1;refine(Zti hn hA hk hc (hi) w.heap.size (w.heap.size+1) (w.heap.size+1+1) mn mA mk mc mm mB mj md sn sA sk sc sm sB sj sd sg mq sq wi hf.out qm.out o.out qs.out u.out qp.out (hE.out.z _ Gk Gk).1 hE.out.sm (hE.out.z _ Gk Gk).2.1 (hE.out.z _ Gk Gk).2.2 hE.out.ss).mono ?_;rintro e n3 ⟨rfl,f⟩;replace q8:=Gm f q8;replace q9:=Gm f q9;replace y:=Gm f y;replace lf:=Zd (lf.out.below f);replace tf:=Zd (tf.out.below f);replace hf:=Zd (hf.out.below f);replace qm:=Gm f qm;replace qs:=Gm f qs;replace qp:=Gm f qp;replace qr:=Gm f qr;replace o:=Zd (o.out.below f);replace u:=Zd (u.out.below f);have e3:=Gn f5 f;clear f5 f;by_cases hbe:hi<=M
  case pos =>
   have t1:Zg0 sg mq sq hi=true:=(hE.out.low hi Gk).2 hbe;rw[t1];clear t1;obtain⟨x0,x1,-⟩:=y.out.two;obtain⟨l6,j3,h6,e5,c7,b9,-⟩:=Zaz hn hA hk hc e3.out (show w.heap.size<=g8 by have:=n8.out;have:=n9.out;have:=a5.out;omega) q8.out;have h8:=Zd (b9 _ _ _ Gc q9.out);have a9:=Zd (b9 _ _ _ Gc y.out);have lfz:=Zd (c7 _ _ _ _ _ lf.out);have tfz:=Zd (c7 _ _ _ _ _ tf.out);have b5:=Zd (c7 _ _ _ _ _ hf.out);have qmz:=Zd (b9 _ _ _ Gc qm.out);have qsz:=Zd (b9 _ _ _ Gc qs.out);have qpz:=Zd (b9 _ _ _ Gc qp.out);have qrz:=Zd (b9 _ _ _ Gc qr.out);have V:=Zd (Fr.keep o.out c7);have Y:=Zd (Fr.keep u.out c7);have g4:=Zd h6;replace e5:=Zd e5;obtain⟨y0,y1,z0,z1⟩:=q8.out.two;obtain⟨a0,a1,-⟩:=h8.out.two;go_wp2_with fail;clear x0 x1 a0 a1;(try rw[j3]);clear j3 c7 b9 h6 y0 y1 z0 z1;replace q9:=h8;clear h8;replace y:=a9;clear a9;replace lf:=lfz;clear lfz;replace tf:=tfz;clear tfz;replace hf:=b5;clear b5;replace qm:=qmz;clear qmz;replace qs:=qsz;clear qsz;replace qp:=qpz;clear qpz;replace qr:=qrz;clear qrz;replace o:=V;clear V;replace u:=Y;clear Y q8;have q8:=e5
   clear e5 e3 lf;refine(Zk9 tn tn tA tA tk tc tk tc st st l6 tf.out tf.out).mono ?_;rintro e m1 ⟨f,an,aA,ak,ac,cd,rfl,hP⟩;replace q8:=Gm f q8;replace q9:=Gm f q9;replace y:=Gm f y;replace tf:=Zd (tf.out.below f);replace hf:=Zd (hf.out.below f);replace qm:=Gm f qm;replace qs:=Gm f qs;replace qp:=Gm f qp;replace qr:=Gm f qr;replace o:=Zd (o.out.below f);replace u:=Zd (u.out.below f);have j2:=Gn g4 f;clear g4 f;have a7:=e9.out (st+st) Gk Gk;have af:Wd m1 an aA ak ac (st+st):=hP.small a7;obtain rfl:cd=0:=hP.code0 a7;clear hP a7;replace af:=Zd af;obtain⟨l9,i9,h5,d5,c9,b8,-⟩:=Zaz an aA ak ac j2.out (show w.heap.size<=(g8+1) by have:=n8.out;have:=n9.out;have:=a5.out;omega) q9.out;have c8:=Zd (b8 _ _ _ Gc q8.out);have a9:=Zd (b8 _ _ _ Gc y.out);have tfz:=Zd (c9 _ _ _ _ _ tf.out);have b5:=Zd (c9 _ _ _ _ _ hf.out);have qmz:=Zd (b8 _ _ _ Gc qm.out);have qsz:=Zd (b8 _ _ _ Gc qs.out);have qpz:=Zd (b8 _ _ _ Gc qp.out);have qrz:=Zd (b8 _ _ _ Gc qr.out)
   have V:=Zd (Fr.keep o.out c9);have Y:=Zd (Fr.keep u.out c9);have afz:=Zd (c9 _ _ _ _ _ af.out);have f6:=Zd h5;replace d5:=Zd d5;obtain⟨y0,y1,z0,z1⟩:=q9.out.two;obtain⟨a0,a1,-⟩:=c8.out.two;obtain⟨b0,b1,-⟩:=d5.out.two;go_wp2_with fail;clear a0 a1 b0 b1;(try rw[i9]);clear i9 c9 b8 h5 y0 y1 z0 z1;replace q8:=c8;clear c8;replace y:=a9;clear a9;replace tf:=tfz;clear tfz;replace hf:=b5;clear b5;replace qm:=qmz;clear qmz;replace qs:=qsz;clear qsz;replace qp:=qpz;clear qpz;replace qr:=qrz;clear qrz;replace o:=V;clear V;replace u:=Y;clear Y;replace af:=afz;clear afz q9;have q9:=d5;clear d5 j2 tf;refine(Zk9 hn an hA aA hk hc ak ac hi (st+st) l9 hf.out af.out).mono ?_;rintro e l1 ⟨f,bn,bA,bk,bc,cd,rfl,hP⟩;replace q8:=Gm f q8;replace q9:=Gm f q9;replace y:=Gm f y;replace hf:=Zd (hf.out.below f);replace qm:=Gm f qm;replace qs:=Gm f qs;replace qp:=Gm f qp;replace qr:=Gm f qr;replace o:=Zd (o.out.below f);replace u:=Zd (u.out.below f);replace af:=Zd (af.out.below f);have i3:=Gn f6 f;clear f6 f;have a7:=e9.out (hi+(st+st)) Gk Gk;have bf:Wd l1 bn bA bk bc (hi+(st+st)):=hP.small a7;obtain rfl:cd=0:=hP.code0 a7;clear hP a7;replace bf:=Zd bf
   obtain⟨n2,j0,g7,e6,c5,c2,-⟩:=Zaz bn bA bk bc i3.out (show w.heap.size<=g9 by have:=n8.out;have:=n9.out;have:=a5.out;omega) y.out;have c8:=Zd (c2 _ _ _ Gc q8.out);have h8:=Zd (c2 _ _ _ Gc q9.out);have b5:=Zd (c5 _ _ _ _ _ hf.out);have qmz:=Zd (c2 _ _ _ Gc qm.out);have qsz:=Zd (c2 _ _ _ Gc qs.out);have qpz:=Zd (c2 _ _ _ Gc qp.out);have qrz:=Zd (c2 _ _ _ Gc qr.out);have V:=Zd (Fr.keep o.out c5);have Y:=Zd (Fr.keep u.out c5);have afz:=Zd (c5 _ _ _ _ _ af.out);have bfz:=Zd (c5 _ _ _ _ _ bf.out);have k3:=Zd g7;replace e6:=Zd e6;obtain⟨y0,y1,z0,z1⟩:=y.out.two;go_wp2_with fail;(try rw[j0]);clear j0 c5 c2 g7 y0 y1 z0 z1;replace q8:=c8;clear c8;replace q9:=h8;clear h8;replace hf:=b5;clear b5;replace qm:=qmz;clear qmz;replace qs:=qsz;clear qsz;replace qp:=qpz;clear qpz;replace qr:=qrz;clear qrz;replace o:=V;clear V;replace u:=Y;clear Y;replace af:=afz;clear afz;replace bf:=bfz;clear bfz y;have y:=e6;clear e6 i3
   go_roundg (M-hi).toNat
   case measure=>have:=g5.out;omega
   case rel=>exact⟨hi,st+st,hi+(st+st),_,_,_,_,_,_,_,_,_,_,_,_,Zd rfl,by omega,by omega,rfl,hbe,by omega,q8,q9,y,hf,af,bf,qm,qs,qp,qr,o,u,k3⟩
  have t1:Zg0 sg mq sq hi=false:=by
   cases h9:Zg0 sg mq sq hi with
   | false=>rfl
   | true=>exact absurd ((hE.out.low hi Gk).1 h9) hbe
  rw[t1];clear t1;go_wp2_with fail;have I:Hid (g8<g9):=Zd (by have:=n9.out;have:=a5.out;omega);replace g5:=Zd g5
  go_loopg [12,13,14,15,16,17] (hi-lo).toNat (λx v12 v13 v14 v15 v16 v17 wr=>∃ (lo hi:Int) (ln:Bool) (lA:Option Addr) (lk lc:Nat) (hn:Bool) (hA:Option Addr) (hk hc:Nat),Hid (x=(hi-lo).toNat)/\lo<=M/\-1<=lo/\M<hi/\hi<=2*M+2/\Hid (Blk wr g8 39 #[.bool ln,.slice lA lk lc])/\Hid (Blk wr g9 39 #[.bool hn,.slice hA hk hc])/\Hid (Wd wr ln lA lk lc lo)/\Hid (Wd wr hn hA hk hc hi)/\Hid (Blk wr w.heap.size 73 #[.bool mn,.slice mA mk mc,.bool mm,.slice mB mj md])/\Hid (Blk wr (w.heap.size+1) 73 #[.bool sn,.slice sA sk sc,.bool sm,.slice sB sj sd])/\Hid (Blk wr (w.heap.size+1+1) 3 #[.int .i64 sg])/\Hid (Blk wr (w.heap.size+1+1+1) 39 #[.bool false,.slice none 0 0])/\Hid (Fr wr mn mA mk mc mm mB mj md mq)/\Hid (Fr wr sn sA sk sc sm sB sj sd sq)/\Hid (Below w.heap.size w wr))
  case atStart=>exact⟨lo,hi,_,_,_,_,_,_,_,_,Zd rfl,k0,j8,by omega,by omega,q8,y,lf,hf,qm,qs,qp,qr,o,u,e3⟩
  case round =>
   clear q8 q9 y lf tf hf qm qs qp qr o u e3 g5 m2 m3 m4 k0 j8 hbe;obtain⟨wj,rfl⟩:=Gy wr;obtain⟨lo,hi,ln,lA,lk,lc,hn,hA,hk,hc,g5,k0,j8,m6,m5,q8,y,lf,hf,qm,qs,qp,qr,o,u,f5⟩:=hrel;obtain⟨x0,x1,-⟩:=y.out.two;obtain⟨υ0,υ1,-⟩:=q8.out.two;go_wp2_with fail;clear x0 x1 υ0 υ1;refine(Zus hn ln hA lA hk hc lk lc hi lo wj hf.out lf.out).mono ?_;rintro e g6 ⟨f,dn,dA,dk,dc,cd,rfl,hP⟩;replace q8:=Gm f q8;replace y:=Gm f y;replace lf:=Zd (lf.out.below f);replace hf:=Zd (hf.out.below f);replace qm:=Gm f qm;replace qs:=Gm f qs;replace qp:=Gm f qp;replace qr:=Gm f qr;replace o:=Zd (o.out.below f);replace u:=Zd (u.out.below f);have f3:=Gn f5 f;clear f5 f;have a7:=e9.out (hi-lo) Gk Gk;have df:Wd g6 dn dA dk dc (hi-lo):=hP.small a7;obtain rfl:cd=0:=hP.code0 a7;clear hP a7;replace df:=Zd df;have a4:Hid (g9<g6.heap.size):=Zd y.out.lt;obtain⟨e0,d7⟩:=Gz g6.heap.size;obtain⟨d9,i1,C,T⟩:=Zaq (w:=g6) 39 #[.bool dn,.slice dA dk dc];rw[d7]at C;replace q8:=Gm T q8;replace y:=Gm T y;replace lf:=Zd (lf.out.below T);replace hf:=Zd (hf.out.below T);replace qm:=Gm T qm;replace qs:=Gm T qs;replace qp:=Gm T qp;replace qr:=Gm T qr
   replace o:=Zd (o.out.below T);replace u:=Zd (u.out.below T);replace df:=Zd (df.out.below T);have f4:=Gn f3 T;clear f3 T;replace C:=Zd C;rw[d7]at a4;go_wp2_with fail;(try rw[d7]);(try rw[i1]);clear i1;replace d7:=Zd d7;have a3:d9.cell? ⟨e0,0,none⟩=some (.bool dn):=C.out.cell 0;have a2:d9.cell? ⟨e0,1,none⟩=some (.slice dA dk dc):=C.out.cell 1;have J:Below d9.heap.size d9 d9.drew:=Zh (Qb _ _) 1;replace q8:=Gm J q8;replace y:=Gm J y;replace lf:=Zd (lf.out.below J);replace hf:=Zd (hf.out.below J);replace qm:=Gm J qm;replace qs:=Gm J qs;replace qp:=Gm J qp;replace qr:=Gm J qr;replace o:=Zd (o.out.below J);replace u:=Zd (u.out.below J);replace df:=Zd (df.out.below J);replace C:=Gm J C;have g0:=Gn f4 J;clear f4;replace a3:=Zc J a3;replace a2:=Zc J a2;clear J;refine Zz [] (λwx=>(wx.cell? ⟨e0,0,none⟩=some (.bool dn))/\(wx.cell? ⟨e0,1,none⟩=some (.slice dA dk dc))) hmx ⟨a3,a2⟩ (λ_=>?_);refine Zkb 1 [0] rfl Gi ⟨a3,a2⟩ ?_
   (refine tkA ?_;try simp only[Qa,Zg9,Zgn,Zg3,Gr,Gq,Gp])
   refine tk0 ?_;refine wpAnyL_o 1 λK hK=>?_;go_simp;refine(Zb3 1 d9.drew Gj Gj).mono ?_;rintro e l3 ⟨b7,on,oA,ok,oc,rfl,of⟩;replace q8:=Gm b7 q8;replace y:=Gm b7 y;replace lf:=Zd (lf.out.below b7);replace hf:=Zd (hf.out.below b7);replace qm:=Gm b7 qm;replace qs:=Gm b7 qs;replace qp:=Gm b7 qp;replace qr:=Gm b7 qr;replace o:=Zd (o.out.below b7);replace u:=Zd (u.out.below b7);replace df:=Zd (df.out.below b7);replace C:=Gm b7 C;have f7:=Gn g0 b7;clear g0;replace a3:=Zc b7 a3;replace a2:=Zc b7 a2;clear b7;replace of:=Zd of;refine hK.out _ _ (λ_=>⟨a3,a2⟩) ?_;clear hK K
   try simp only[Qa,Zg9,Zgn,Zg3,Gr,Gq,Gp]
   refine wpAnyL_o 2 λK hK=>?_;go_simp;refine(Zre dn on dA oA dk dc ok oc (hi-lo) 1 l3 df.out of.out).mono ?_;rintro e m0 ⟨rfl,b6⟩;replace q8:=Gm b6 q8;replace y:=Gm b6 y;replace lf:=Zd (lf.out.below b6);replace hf:=Zd (hf.out.below b6);replace qm:=Gm b6 qm;replace qs:=Gm b6 qs;replace qp:=Gm b6 qp;replace qr:=Gm b6 qr;replace o:=Zd (o.out.below b6);replace u:=Zd (u.out.below b6);replace df:=Zd (df.out.below b6);replace C:=Gm b6 C;replace of:=Zd (of.out.below b6);have e2:=Gn f7 b6;clear f7;replace a3:=Zc b6 a3;replace a2:=Zc b6 a2;clear b6;refine hK.out _ _ (λ_=>⟨a3,a2⟩) ?_;clear hK K
   try simp only[Qa,Zg9,Zgn,Zg3,Gr,Gq,Gp]
   obtain⟨r2,i2⟩:=Gz (Zco (hi-lo) 1);rw[i2];have k6:Hid (r2<=0 ↔ hi-lo<=1):=Zd (by rw[<- i2];exact cmp_le1);replace i2:=Zd i2;refine Zkb 5 [3,4,5,6,7] rfl Gi ⟨a3,a2⟩ ?_
   iterate 5 (refine tkA ?_;try simp only[Qa,Zg9,Zgn,Zg3,Gr,Gq,Gp])
   refine tk0 ?_;refine wpAnyL_fin ?_;clear a3 a2 of;by_cases j7:hi-lo<=1
   case pos =>
    have t1:decide (r2<=0)=true:=Gv (k6.out.2 j7);obtain rfl:lo=M:=Gk;obtain⟨x0,x1,-⟩:=q8.out.two;obtain⟨y0,y1,z0,z1⟩:=qr.out.two;obtain⟨U,hU,m7,q3,kW,-,-⟩:=Zaz ln lA lk lc e2.out (show w.heap.size<=(w.heap.size+1+1+1) by omega) qr.out;obtain⟨r0,r1,-⟩:=q3.two;have l4:=Zd (kW _ _ _ _ _ lf.out);clear kW;replace j7:=Zd j7;go_wp2_with fail;(try rw[hU]);refine bodyPost_ret (v:=.agg #[.bool ln,.slice lA lk lc]) (by simp[results,Tryz.results72,go_sem,r0,r1]) rfl ?_;exact⟨m7,_,_,_,_,rfl,l4.out⟩
   have t1:decide (r2<=0)=false:=Gu (λh=>j7 (k6.out.1 h));clear k6 i2;obtain⟨x0,x1,-⟩:=C.out.two;obtain⟨D,hD⟩:∃ D:Nat,hi-lo=(D:Int):=⟨(hi-lo).toNat,by omega⟩;rw[hD]at df;obtain rfl:dn=false:=by rw[df.out.1];exact Gu Gk
   go_wp2_with fail;clear x0 x1;refine(Zs8 dA dk dc D m0 df.out).mono ?_;rintro e n1 ⟨f,en,eA,ek,ec,rfl,ef⟩;replace q8:=Gm f q8;replace y:=Gm f y;replace lf:=Zd (lf.out.below f);replace hf:=Zd (hf.out.below f);replace qm:=Gm f qm;replace qs:=Gm f qs;replace qp:=Gm f qp;replace qr:=Gm f qr;replace o:=Zd (o.out.below f);replace u:=Zd (u.out.below f);replace df:=Zd (df.out.below f);replace C:=Gm f C;have j5:=Gn e2 f;clear e2 f;have n6:Hid (hi-lo=(D:Int)):=Zd hD;obtain⟨H,hH⟩:∃ H:Nat,D/2=H:=⟨_,rfl⟩;rw[hH]at ef;have o0:1<=H:=Gk;have o3:H<D:=Gk
   replace hH:=Zd hH;replace ef:=Zd ef;clear df;have n5:=a4;obtain⟨l2,j6,h7,d4,c6,c1,-⟩:=Zaz en eA ek ec j5.out (show w.heap.size<=e0 by have:=n8.out;have:=I.out;have:=a4.out;omega) C.out;have c8:=Zd (c1 _ _ _ GZ q8.out);have a9:=Zd (c1 _ _ _ GZ y.out);have lfz:=Zd (c6 _ _ _ _ _ lf.out);have b5:=Zd (c6 _ _ _ _ _ hf.out);have qmz:=Zd (c1 _ _ _ GZ qm.out);have qsz:=Zd (c1 _ _ _ GZ qs.out);have qpz:=Zd (c1 _ _ _ GZ qp.out);have qrz:=Zd (c1 _ _ _ GZ qr.out);have V:=Zd (Fr.keep o.out c6);have Y:=Zd (Fr.keep u.out c6);have efz:=Zd (c6 _ _ _ _ _ ef.out);have g2:=Zd h7;replace d4:=Zd d4;obtain⟨y0,y1,z0,z1⟩:=C.out.two;obtain⟨a0,a1,-⟩:=c8.out.two;obtain⟨b0,b1,-⟩:=d4.out.two;go_wp2_with fail;clear a0 a1 b0 b1;(try rw[j6]);clear j6 c6 c1 h7 y0 y1 z0 z1;replace q8:=c8;clear c8;replace y:=a9;clear a9;replace lf:=lfz;clear lfz;replace hf:=b5;clear b5;replace qm:=qmz;clear qmz;replace qs:=qsz;clear qsz;replace qp:=qpz;clear qpz;replace qr:=qrz;clear qrz;replace o:=V;clear V;replace u:=Y;clear Y;replace ef:=efz;clear efz C;have C:=d4
   clear d4 j5;refine(Zk9 ln en lA eA lk lc ek ec lo (H:Int) l2 lf.out ef.out).mono ?_;rintro e h4 ⟨f,i7,j4,i0,i4,cd,rfl,hP⟩;replace q8:=Gm f q8;replace y:=Gm f y;replace lf:=Zd (lf.out.below f);replace hf:=Zd (hf.out.below f);replace qm:=Gm f qm;replace qs:=Gm f qs;replace qp:=Gm f qp;replace qr:=Gm f qr;replace o:=Zd (o.out.below f);replace u:=Zd (u.out.below f);replace C:=Gm f C;replace ef:=Zd (ef.out.below f);have f8:=Gn g2 f;clear g2 f;have a7:=e9.out (lo+(H:Int)) Gk Gk;have c4:Wd h4 i7 j4 i0 i4 (lo+(H:Int)):=hP.small a7;obtain rfl:cd=0:=hP.code0 a7;clear hP a7;replace c4:=Zd c4;have b2:Hid (e0<h4.heap.size):=Zd C.out.lt;obtain⟨m8,d6⟩:=Gz h4.heap.size;obtain⟨l8,i8,a8,O⟩:=Zaq (w:=h4) 39 #[.bool i7,.slice j4 i0 i4];rw[d6]at a8;replace q8:=Gm O q8;replace y:=Gm O y;replace lf:=Zd (lf.out.below O);replace hf:=Zd (hf.out.below O);replace qm:=Gm O qm;replace qs:=Gm O qs;replace qp:=Gm O qp;replace qr:=Gm O qr;replace o:=Zd (o.out.below O);replace u:=Zd (u.out.below O);replace C:=Gm O C;replace ef:=Zd (ef.out.below O);replace c4:=Zd (c4.out.below O)
   have f9:=Gn f8 O;clear f8 O;replace a8:=Zd a8;rw[d6]at b2;obtain⟨x0,x1,-⟩:=a8.out.two;go_wp2_with fail;(try rw[d6]);(try rw[i8]);clear i8;replace d6:=Zd d6;clear x0 x1;refine(Zti i7 j4 i0 i4 (lo+(H:Int)) w.heap.size (w.heap.size+1) (w.heap.size+1+1) mn mA mk mc mm mB mj md sn sA sk sc sm sB sj sd sg mq sq l8 c4.out qm.out o.out qs.out u.out qp.out (hE.out.z _ Gk Gk).1 hE.out.sm (hE.out.z _ Gk Gk).2.1 (hE.out.z _ Gk Gk).2.2 hE.out.ss).mono ?_;rintro e m9 ⟨rfl,f⟩;replace q8:=Gm f q8;replace y:=Gm f y;replace lf:=Zd (lf.out.below f);replace hf:=Zd (hf.out.below f);replace qm:=Gm f qm;replace qs:=Gm f qs;replace qp:=Gm f qp;replace qr:=Gm f qr;replace o:=Zd (o.out.below f);replace u:=Zd (u.out.below f);replace C:=Gm f C;replace ef:=Zd (ef.out.below f);replace c4:=Zd (c4.out.below f);replace a8:=Gm f a8;have e1:=Gn f9 f;clear f9 f;by_cases hbe:lo+(H:Int)<=M
   case pos =>
    have t1:Zg0 sg mq sq (lo+(H:Int))=true:=(hE.out.low _ Gk).2 hbe;rw[t1];clear t1;obtain⟨x0,x1,-⟩:=a8.out.two;obtain⟨n0,i6,h0,e4,c0,b4,-⟩:=Zaz i7 j4 i0 i4 e1.out (show w.heap.size<=g8 by have:=n8.out;have:=I.out;have:=a4.out;have:=b2.out;omega) q8.out;have a9:=Zd (b4 _ _ _ Ga y.out);have lfz:=Zd (c0 _ _ _ _ _ lf.out);have b5:=Zd (c0 _ _ _ _ _ hf.out);have qmz:=Zd (b4 _ _ _ Ga qm.out);have qsz:=Zd (b4 _ _ _ Ga qs.out);have qpz:=Zd (b4 _ _ _ Ga qp.out);have qrz:=Zd (b4 _ _ _ Ga qr.out);have V:=Zd (Fr.keep o.out c0);have Y:=Zd (Fr.keep u.out c0);have d0:=Zd (b4 _ _ _ Ga C.out);have efz:=Zd (c0 _ _ _ _ _ ef.out);have f0:=Zd (c0 _ _ _ _ _ c4.out);have d3:=Zd (b4 _ _ _ Ga a8.out);have l0:=Zd h0;replace e4:=Zd e4;obtain⟨y0,y1,z0,z1⟩:=q8.out.two;go_wp2_with fail;clear x0 x1;(try rw[i6]);clear i6 c0 b4 h0 y0 y1 z0 z1;replace y:=a9;clear a9;replace lf:=lfz;clear lfz;replace hf:=b5;clear b5;replace qm:=qmz;clear qmz;replace qs:=qsz;clear qsz;replace qp:=qpz;clear qpz;replace qr:=qrz;clear qrz;replace o:=V;clear V;replace u:=Y;clear Y;replace C:=d0;clear d0;replace ef:=efz;clear efz;replace c4:=f0;clear f0;replace a8:=d3;clear d3 q8;have q8:=e4;clear e4 e1
    go_roundg (hi-(lo+(H:Int))).toNat
    case measure=>have:=g5.out;omega
    case rel=>exact⟨lo+(H:Int),hi,_,_,_,_,_,_,_,_,Zd rfl,hbe,by omega,m6,m5,q8,y,c4,hf,qm,qs,qp,qr,o,u,l0⟩
   have t1:Zg0 sg mq sq (lo+(H:Int))=false:=by
    cases h9:Zg0 sg mq sq (lo+(H:Int))with
    | false=>rfl
    | true=>exact absurd ((hE.out.low _ Gk).1 h9) hbe
   rw[t1];clear t1;obtain⟨x0,x1,-⟩:=a8.out.two;obtain⟨n4,i5,h3,e7,c3,b3,-⟩:=Zaz i7 j4 i0 i4 e1.out (show w.heap.size<=g9 by have:=n8.out;have:=I.out;have:=a4.out;have:=b2.out;omega) y.out;have c8:=Zd (b3 _ _ _ Ga q8.out);have lfz:=Zd (c3 _ _ _ _ _ lf.out);have b5:=Zd (c3 _ _ _ _ _ hf.out);have qmz:=Zd (b3 _ _ _ Ga qm.out);have qsz:=Zd (b3 _ _ _ Ga qs.out);have qpz:=Zd (b3 _ _ _ Ga qp.out);have qrz:=Zd (b3 _ _ _ Ga qr.out);have V:=Zd (Fr.keep o.out c3);have Y:=Zd (Fr.keep u.out c3);have d0:=Zd (b3 _ _ _ Ga C.out);have efz:=Zd (c3 _ _ _ _ _ ef.out);have f0:=Zd (c3 _ _ _ _ _ c4.out);have d3:=Zd (b3 _ _ _ Ga a8.out);have k9:=Zd h3;replace e7:=Zd e7;obtain⟨y0,y1,z0,z1⟩:=y.out.two;go_wp2_with fail;clear x0 x1;(try rw[i5]);clear i5 c3 b3 h3 y0 y1 z0 z1;replace q8:=c8;clear c8;replace lf:=lfz;clear lfz;replace hf:=b5;clear b5;replace qm:=qmz;clear qmz;replace qs:=qsz;clear qsz;replace qp:=qpz;clear qpz;replace qr:=qrz;clear qrz;replace o:=V;clear V;replace u:=Y;clear Y;replace C:=d0;clear d0;replace ef:=efz;clear efz;replace c4:=f0;clear f0;replace a8:=d3;clear d3 y;have y:=e7;clear e7 e1
   go_roundg ((lo+(H:Int))-lo).toNat
   case measure=>have:=g5.out;omega
   case rel=>exact⟨lo,lo+(H:Int),_,_,_,_,_,_,_,_,Zd rfl,k0,j8,by omega,by omega,q8,y,lf,c4,qm,qs,qp,qr,o,u,k9⟩
structure RootZ (s r up:Int):Prop where
 r0:0<=r
 lo:r*r<=s
 hi:s<(r+1)*(r+1)
 up:up=if r*r<s then r+1 else r
theorem RootZ.le{s r up x:Int}(h:RootZ s r up):(x<=0 \/ x*x<=s) ↔ x<=r:=by
 obtain⟨h0,h1,h2,-⟩:=h;constructor
 ·rintro(h3|h3)
  omega;apply Classical.byContradiction;intro h4;have h5:(r+1)*(r+1)<=x*x:=Qe Gk Gk Gk Gk;omega
 intro h3;rcases Int.lt_or_le 0 x with h4|h4
 ·have h5:x*x<=r*r:=Qe h3 h3 Gk h0
  exact .inr Gk
 exact .inl h4
theorem RootZ.ge{s r up x:Int}(h:RootZ s r up):(x<=0/\s<=x*x) ↔ x <= -up:=by
 obtain⟨h0,h1,h2,h3⟩:=h;have hx:x*x=(-x)*(-x):=by rw[Int.neg_mul_neg]
 rw[hx];by_cases h4:r*r<s
 ·rw[Gx h4]at h3
  constructor
  ·rintro⟨h5,h6⟩
   apply Classical.byContradiction;intro h7;have h8:(-x)*(-x)<=r*r:=Qe Gk Gk Gk h0;omega
  intro h5;have h8:(r+1)*(r+1)<=(-x)*(-x):=Qe Gk Gk Gk Gk;exact⟨by omega,by omega⟩
 rw[Gw h4]at h3;constructor
 ·rintro⟨h5,h6⟩
  apply Classical.byContradiction;intro h7;have h8:(-x+1)*(-x+1)<=r*r:=Qe Gk Gk Gk h0;have h9:(-x+1)*(-x+1)=(-x)*(-x)+2*(-x)+1:=by grind
  omega
 intro h5;have h8:r*r<=(-x)*(-x):=Qe Gk Gk h0 Gk;exact⟨by omega,by omega⟩
theorem Zmd{a d w:Int}(hd:0<d):w<=Qs a d ↔ w*d<=a:=by
 rw[Int.fdiv_eq_ediv_of_nonneg _ Gk];exact Int.le_ediv_iff_mul_le hd
theorem Zjl{a b c:Rat}(h:0<c):c*a<=c*b ↔ a<=b:=⟨λh1=>Rat.le_of_mul_le_mul_left h1 h,λh1=>Rat.mul_le_mul_of_nonneg_left h1 (Qt h)⟩
section
variable{mean sq:Rat}{m n s r up w:Int}
theorem Zlq(hm:0<m)(hn:(n:Rat)=2*mean*m)(hs:(s:Rat)=4*sq*m*m):((w:Rat)-mean<=0 ↔ 2*m*w-n<=0)/\(((w:Rat)-mean)*((w:Rat)-mean)<=sq ↔ (2*m*w-n)*(2*m*w-n)<=s)/\(sq<=((w:Rat)-mean)*((w:Rat)-mean) ↔ s<=(2*m*w-n)*(2*m*w-n)):=by
 have e:(0:Rat)<(m:Rat):=by exact_mod_cast hm
 have e1:((2*m*w-n:Int):Rat)=2*(m:Rat)*((w:Rat)-mean):=by
  rw[Rat.intCast_sub,Qc,Qc,hn];have:((2:Int):Rat)=2:=rfl;rw[this];grind
 have h:(0:Rat)<2*(m:Rat):=Qm Gj e;have f:(0:Rat)<4*(m:Rat)*(m:Rat):=Qm (Qm Gj e) e
 have e2:(((2*m*w-n)*(2*m*w-n):Int):Rat)=4*(m:Rat)*(m:Rat)*(((w:Rat)-mean)*((w:Rat)-mean)):=by
  rw[Qc,e1];grind
 have e3:(s:Rat)=4*(m:Rat)*(m:Rat)*sq:=by rw[hs];grind
 refine⟨?_,?_,?_⟩
 ·have h1:((2*m*w-n:Int):Rat)<=((0:Int):Rat) ↔ 2*m*w-n<=0:=Qi
  rw[<- h1,e1];have:((0:Int):Rat)=2*(m:Rat)*0:=by show (0:Rat)=_;grind
  rw[this];exact(Zjl h).symm
 ·have h1:(((2*m*w-n)*(2*m*w-n):Int):Rat)<=(s:Rat) ↔ _:=Qi
  rw[<- h1,e2,e3];exact(Zjl f).symm
 have h1:(s:Rat)<=(((2*m*w-n)*(2*m*w-n):Int):Rat) ↔ _:=Qi;rw[<- h1,e2,e3];exact(Zjl f).symm
theorem Zxq(hm:0<m)(hn:(n:Rat)=2*mean*m)(hs:(s:Rat)=4*sq*m*m)(hr:RootZ s r up):((w:Rat)-mean<=0 \/ ((w:Rat)-mean)*((w:Rat)-mean)<=sq) ↔ w<=Qs (n+r) (m+m):=by
 obtain⟨h1,h2,-⟩:=Zlq (w:=w) hm hn hs;rw[h1,h2,hr.le,Zmd Gk];have:w*(m+m)=2*m*w:=by grind
 omega
theorem Zvj(hm:0<m)(hn:(n:Rat)=2*mean*m)(hs:(s:Rat)=4*sq*m*m)(hr:RootZ s r up):((w:Rat)-mean<=0/\sq<=((w:Rat)-mean)*((w:Rat)-mean)) ↔ w<=Qs (n-up) (m+m):=by
 obtain⟨h1,-,h3⟩:=Zlq (w:=w) hm hn hs;rw[h1,h3,hr.ge,Zmd Gk];have:w*(m+m)=2*m*w:=by grind
 omega
end
def axH:Rat:=Rat.divInt 1 2
def Zan(a d:Rat):Rat:=(a+d)*axH
def Zey(a d:Rat):Rat:=(a-d)*axH
def Zhr(a b d:Rat):Rat:=Zey a d*Zey a d+b*b
def axT(a d:Rat):Rat:=a+d
def axD(a d:Rat):Rat:=a-d
def axQ(a b d:Rat):Rat:=axD a d*axD a d+4*(b*b)
def axM(a b d:Rat):Int:=((axT a d).den:Int)*((axQ a b d).den:Int)
def axN(a b d:Rat):Int:=(axT a d).num*((axQ a b d).den:Int)
def axS(a b d:Rat):Int:=(axQ a b d).num*((axQ a b d).den:Int)*((axT a d).den:Int)*((axT a d).den:Int)
noncomputable def axR (a b d:Rat):Nat:=rootN (axS a b d).natAbs
noncomputable def axUp (a b d:Rat):Int:=if (axR a b d:Int)*(axR a b d:Int)<axS a b d then (axR a b d:Int)+1 else (axR a b d:Int)
noncomputable def axLong (a b d:Rat):Int:=Qs (axN a b d+(axR a b d:Int)) (axM a b d+axM a b d)
noncomputable def axShort (a b d:Rat):Int:=Qs (axN a b d-axUp a b d) (axM a b d+axM a b d)
theorem Zwq(z:Nat):IsRoot z (rootN z):=by
 have h:∃ r,IsRoot z r:=by
  induction z with
  | zero=>exact⟨0,by unfold IsRoot;omega⟩
  | succ z ih =>
   obtain⟨r,h1,h2⟩:=ih;by_cases h3:z+1<(r+1)*(r+1);exact⟨r,by omega,h3⟩;refine⟨r+1,by omega,?_⟩;have e:(r+1+1)*(r+1+1)=(r+1)*(r+1)+2*r+3:=by grind
   omega
 obtain⟨r,hr⟩:=h;rw[Zi1 hr];exact hr
theorem Zko:2*axH=1:=by decide +kernel
theorem Zwn(q:Rat):(q.num:Rat)=q*((q.den:Nat):Rat):=by
 have h:Rat.divInt q.num q.den=q:=Rat.num_divInt_den q;rw[Rat.divInt_eq_div]at h;have h0:((q.den:Nat):Rat)≠0:=by exact_mod_cast q.den_nz
 have e:(((q.den:Nat):Int):Rat)=((q.den:Nat):Rat):=Ql _;rw[e]at h
 have h1:(q.num:Rat)/((q.den:Nat):Rat)*((q.den:Nat):Rat)=(q.num:Rat):=by
  rw[Rat.div_def,Rat.mul_assoc,Rat.inv_mul_cancel _ h0,Rat.mul_one]
 rw[h]at h1;exact h1.symm
section
variable{a b d:Rat}
theorem Zkk:0<axM a b d:=by
 unfold axM;have h1:=(axT a d).den_pos;have h2:=(axQ a b d).den_pos;exact Int.mul_pos Gk Gk
theorem Zu7:((axN a b d:Int):Rat)=2*Zan a d*(axM a b d:Int):=by
 unfold axN axM Zan;rw[Qc,Qc,Zwn]
 have e:2*((a+d)*axH)=axT a d:=by
  have:=Zko;unfold axT;grind
 rw[e];simp only[Ql]
 grind
theorem axQ_eq:axQ a b d=4*Zhr a b d:=by
 have h:=Zko;unfold axQ Zhr Zey axD;have e:4*((a-d)*axH*((a-d)*axH))=(a-d)*(a-d)*((2*axH)*(2*axH)):=by grind
 have e2:4*((a-d)*axH*((a-d)*axH)+b*b)=4*((a-d)*axH*((a-d)*axH))+4*(b*b):=by grind
 rw[e2,e,h];grind
theorem Zzw:((axS a b d:Int):Rat)=4*Zhr a b d*(axM a b d:Int)*(axM a b d:Int):=by
 unfold axS axM;rw[Qc,Qc,Qc,Qc,Zwn,axQ_eq];simp only[Ql]
 grind
theorem Z04(x:Rat):0<=x*x:=by
 rcases Rat.le_total (a:=0) (b:=x)with h|h;exact Qf h h;have e:x*x=(-x)*(-x):=by grind
 have h2:0 <= -x:=Rat.neg_le_neg h |> λh3=>by rw[Rat.neg_zero]at h3;exact h3
 rw[e];exact Qf h2 h2
theorem axQ_nn:0<=axQ a b d:=by
 unfold axQ;have h1:=Z04 (axD a d);have h2:=Z04 b;have h3:(0:Rat)<=4*(b*b):=Qf Gj h2
 grind
theorem axS_nn:0<=axS a b d:=by
 unfold axS;have h:=Rat.num_nonneg.2 (axQ_nn (a:=a) (b:=b) (d:=d));exact Qr (Qr (Qr h Gk) Gk) Gk
theorem Zwk:RootZ (axS a b d) (axR a b d) (axUp a b d):=by
 obtain⟨h1,h2⟩:=Zwq (axS a b d).natAbs;have h0:=axS_nn (a:=a) (b:=b) (d:=d);have e:((axS a b d).natAbs:Int)=axS a b d:=Gk;refine⟨by omega,?_,?_,rfl⟩;rw[<- e];unfold axR;exact_mod_cast h1;rw[<- e];unfold axR;exact_mod_cast h2
theorem ax_long{z:Int}:((z:Rat)-Zan a d<=0 \/ ((z:Rat)-Zan a d)*((z:Rat)-Zan a d)<=Zhr a b d) ↔ z<=axLong a b d:=
 Zxq Zkk Zu7 Zzw Zwk
theorem ax_short{z:Int}:((z:Rat)-Zan a d<=0/\Zhr a b d<=((z:Rat)-Zan a d)*((z:Rat)-Zan a d)) ↔ z<=axShort a b d:=
 Zvj Zkk Zu7 Zzw Zwk
theorem ax_low1{z:Int}:Zg0 1 (Zan a d) (Zhr a b d) z=true ↔ z<=axLong a b d:=by
 unfold Zg0;rw[Gx Gj,Bool.or_eq_true,decide_eq_true_eq,decide_eq_true_eq];exact ax_long
theorem ax_low2{z:Int}:Zg0 (-1) (Zan a d) (Zhr a b d) z=true ↔ z<=axShort a b d:=by
 unfold Zg0;rw[Gw Gj,Bool.and_eq_true,decide_eq_true_eq,decide_eq_true_eq];exact ax_short
theorem Zlk(ha:0<a)(hd:0<d)(hp:0<a*d-b*b):0<=axShort a b d:=by
 have hH:0<axH:=GY;have hm:0<Zan a d:=Qm (by grind) hH;refine ax_short.1 ⟨?_,?_⟩
 ·show (0:Rat)-Zan a d<=0
  grind
 have h:=Zko
 have e:((0:Int):Rat)-Zan a d=-Zan a d:=by
  show (0:Rat)-Zan a d=_
  grind
 rw[e]
 have e2:-Zan a d * -Zan a d=Zhr a b d+(a*d-b*b):=by
  unfold Zan Zhr Zey;have e3:-((a+d)*axH) * -((a+d)*axH)=(a-d)*axH*((a-d)*axH)+a*d*((2*axH)*(2*axH)):=by grind
  rw[e3,h];grind
 rw[e2];grind
theorem Zs7(ha:0<a)(hd:0<d):0<=axLong a b d:=by
 have hH:0<axH:=GY;have hm:0<Zan a d:=Qm (by grind) hH;refine ax_long.1 (.inl ?_);show (0:Rat)-Zan a d<=0
 grind
end
section
variable{rs:List RX}{i k E:Int}
end
theorem MFL.ents{w:World}{g o n c:Nat}{Q:List (List Rat)}(h:MFL w (some ⟨g,o,none⟩) n c Q)(hr:∀ i,i<n->(Q[i]?.getD []).length=n){I:Nat}(hI:I<n):∃ gi oi ci,w.cell? ⟨g,o+I,none⟩=some (.slice (some ⟨gi,oi,none⟩) n ci)/\n<=ci/\ci<=maxLen/\∀ K,K<n->∃ na A1 n1 c1 nb B m d,At4 w gi (oi+K*4) na A1 n1 c1 nb B m d/\Fr w na A1 n1 c1 nb B m d (Zj Q I K):=by
 obtain⟨A',n',c',h1,h2⟩:=h.atS hI;have hl:=h2.len;rw[hr I hI]at hl;subst hl;obtain⟨gi,oi,-,-,-,-,-,-,-,-,rfl,-,-⟩:=h2.at_ (k:=0) Gk;refine⟨gi,oi,c',h1,h2.cap.1,h2.cap.2,λK hK=>?_⟩;obtain⟨g9,o9,na,A1,n1,c1,nb,B,m,d,e,h3,h4⟩:=h2.at_ hK;cases e;exact⟨_,_,_,_,_,_,_,_,h3,h4⟩
theorem Zux(a:Rat):0<=a*a:=by
 rcases Rat.le_total (a:=0) (b:=a)with h|h;exact Qf h h;have e:a*a=(-a)*(-a):=by grind
 have h2:0 <= -a:=Rat.neg_le_neg h |> λh3=>by rw[Rat.neg_zero]at h3;exact h3
 rw[e];exact Qf h2 h2
theorem Zpx{A:Nat->Nat->Rat}{n:Nat}(hA:∀ i k,i<n->k<n->A i k=A k i)(hp:posP A n){k:Nat}(hk:k<n):∀ f t,t+f=k->0<Zu A t k k
 | 0,t,h=>by
  obtain rfl:t=k:=Gk;exact hp t hk
 | f+1,t,h=>by
  have h1:=Zpx hA hp hk f (t+1) Gk;have hd:=hp t Gk;have h2:=Zmu hA (t:=t) (i:=k) (k:=k) Gk (Qu _) hk (hp.ne Gk);have h3:=Qf (Zux (lQ A k t)) (Qt hd);have e:Zu A t k k=Zu A (t+1) k k+lQ A k t*lQ A k t*dQ A t:=by rw[h2];grind
  rw[e];have h6:Zu A (t+1) k k<=Zu A (t+1) k k+lQ A k t*lQ A k t*dQ A t:=by grind
  exact Rat.not_le.1 λh5=>Rat.not_le.2 h1 (Rat.le_trans h6 h5)
theorem Zf6{rs:List RX}(h0:Za9 rs=0){k:Nat}(hk:k<rs.length):0<Zj (qM rs) k k:=by
 obtain⟨h,f,e⟩:=Zhp h0;exact Zpx (A:=Zj (qM rs)) (n:=rs.length) (λi k hi hk=>symB_iff.1 f i k (by unfold qM;rw[Qw];exact hi) (by unfold qM;rw[Qw];exact hk)) e (k:=k) Gk k 0 Gk
theorem Zuy(na:Bool)(A:Option Addr)(n c:Nat)(nb:Bool)(B:Option Addr)(m d:Nat)(w:World):(Instr.field 73 (.agg #[.bool na,.slice A n c,.bool nb,.slice B m d]) 0).run Tryz.prog w=.ok (.agg #[.bool na,.slice A n c,.bool nb,.slice B m d]) w:=by kernel_rfl
def IdxB(w:World)(b:Bool)(e:Ending)(w':World):Prop:=∃ i:Int,e=.returned (.int .i64 i)/\decide (0<=i)=b/\Below w.heap.size w w'
theorem Z02(na nb:Bool)(A B:Option Addr)(n c m d:Nat)(la lb:List Nat)(w:World)(ha:Lim w A n c la)(hb:Lim w B m d lb)(b:Bool)(hx:(decide (max n m<=8) && okF na la nb lb)=b) :
    Calls Tryz.prog 192 #[.agg #[.bool na,.slice A n c,.bool nb,.slice B m d]] w λe w'=>e=.returned (.bool (!b))/\Below w.heap.size w w':=by
 obtain⟨W0,C,aq,q0,s0⟩:=Zao w 41 #[.bool na,.slice A n c,.bool nb,.slice B m d];obtain⟨a0,a1,a2,a3,-⟩:=q0.four;have u:=Qn ha.2.1 ha.2.2.1;have o:=Qn hb.2.1 hb.2.2.1;unfold maxLen at u o;obtain⟨y,hy⟩:=Gz (okF na la nb lb);rw[hy]at hx;have hC:=Zd (λW1 (h1:Below w.heap.size w W1)=>Zmj na nb A B n c m d la lb W1 (ha.below h1) (hb.below h1) y hy);clear ha hb hy;have hmx:max (n:Int) (m:Int)=((max n m:Nat):Int):=Gk;by_cases h8:max n m<=8
 ·have t1:decide ((8:Int)<((max n m:Nat):Int))=false:=Gu Gk
  have h:decide (8<max n m)=false:=Gu Gk;have f:decide ((8:Int)<max (n:Int) (m:Int))=false:=Gu Gk;rw[Gv h8,Bool.true_and]at hx;subst hx;cases y
  ·go_in
   exact CO
  go_in
  exact CL
 have t1:decide ((8:Int)<((max n m:Nat):Int))=true:=Gv Gk;have h:decide (8<max n m)=true:=Gv Gk;have f:decide ((8:Int)<max (n:Int) (m:Int))=true:=Gv Gk;rw[Gu h8,Bool.false_and]at hx;subst hx;go_in;exact Is
theorem Zz1(A:Option Addr)(n c:Nat)(es:List FX)(w:World)(h:FXL w A n c es)(b:Bool)(hb:Zex es=b) :
    Calls Tryz.prog 150 #[.slice A n c,.func (.func 192) #[] #[]] w (IdxB w (!b)):=by
 have hl:=h.1;have I:=h.2.1;have y:=h.2.2.1;unfold maxLen at y;replace hl:=Zd hl;replace hb:=Zd hb;replace h:=Zd h;go_in;go_wp2_with fail
 go_loopw [8] (λiv wr=>∃ i:Nat,i<=n/\iv=.int .i64 i/\Hid (∀ j e,j<i->es[j]?=some e->e.fine=true)/\Below w.heap.size w wr) (λiv _=>n-(intOf iv).toNat)
 case atStart=>exact⟨0,Qq _,rfl,Zd (λj e hj=>by omega),Qb _ _⟩
 case round =>
  obtain⟨i,J,rfl,aw,aH⟩:=hrel;by_cases hin:i<n
  case neg =>
   obtain rfl:n=i:=Gk;have C:decide ((n:Int)<(n:Int))=false:=Gh
   obtain rfl:b=true:=by
    rw[<- hb.out];unfold Zex;exact EZ
   exact Fh
  have C:decide ((i:Int)<(n:Int))=true:=Gv Gk;obtain⟨g,o,e,rfl,he,hc,f,u⟩:=(h.out.below aH).at_ hin;obtain⟨c0,c1,c2,c3⟩:=hc;obtain⟨x,hx⟩:=Gz e.fine;have hC:=Zd (λW1 (hb:Below wr.heap.size wr W1)=>Z02 e.na e.nb e.A e.B e.n e.c e.m e.d e.la e.lb W1 (f.below hb) (u.below hb) x hx);clear f u;cases x
  ·obtain rfl:b=false:=by
     rw[<- hb.out];unfold Zex;rw[List.all_eq_false];exact⟨e,Qg he,by rw[hx];decide⟩
   exact CN
  have ay:Hid (∀ j e,j<i+1->es[j]?=some e->e.fine=true):=Zd (λj e' hj he'=>by
    rcases Qo j i with h'|h';exact aw.out j e' h' he';obtain rfl:j=i:=Gk;rw[he]at he';cases he';exact hx)
  exact CM
theorem Zxr(A:Option Addr)(n c:Nat)(es:List FX)(w:World)(h:FXL w A n c es)(b:Bool)(hb:Zex es=b) :
    Calls Tryz.prog 108 #[.slice A n c,.func (.func 192) #[] #[]] w λe w'=>e=.returned (.bool (!b))/\Below w.heap.size w w':=by
 go_in;go_wp2_with fail;refine(Zz1 A n c es w h b hb).mono ?_;exact EY
theorem Zrq(A:Option Addr)(n c:Nat)(es:List FX)(w:World)(h:FXL w A n c es)(b:Bool)(hb:Zex es=b) :
    Calls Tryz.prog 172 #[.slice A n c] w λe w'=>e=.returned (.bool b)/\Below w.heap.size w w':=by
 go_in;go_wp2_with fail;refine(Zxr A n c es w h b hb).mono ?_;rintro e w1 ⟨rfl,f⟩;go_wp2_with fail;go_ret;exact⟨by simp,f⟩
def RX.long(r:RX):Bool:=decide (12<r.n)
theorem By{G:Prop}(h:G:=by
 unfold maxLen at hn;have hd:decide ((12:Int)<(n:Int))=decide (12<n):=decide_eq_decide.2 Gk;go_in;exact Fu):G:=h
theorem Zw6(A:Option Addr)(n c:Nat)(w:World)(hn:n<=maxLen) :
    Calls Tryz.prog 171 #[.slice A n c] w λe w'=>e=.returned (.bool (decide (12<n)))/\Below w.heap.size w w':=by
 exact By
theorem FXL.nlen{w:World}{A:Option Addr}{n c:Nat}{es:List FX}(h:FXL w A n c es):n<=maxLen:=Qn h.2.1 h.2.2.1
theorem Zw2(A:Option Addr)(n c:Nat)(rs:List RX)(w:World)(h:MXL w A n c rs)(b:Bool)(hb:rs.any RX.long=b) :
    Calls Tryz.prog 146 #[.slice A n c,.func (.func 171) #[] #[]] w (IdxB w b):=by
 have hl:=h.1;have u:=h.2.1;have f:=h.2.2.1;unfold maxLen at f;replace hl:=Zd hl;replace hb:=Zd hb;replace h:=Zd h;go_in;go_wp2_with fail
 go_loopw [8] (λiv wr=>∃ i:Nat,i<=n/\iv=.int .i64 i/\Hid (∀ j e,j<i->rs[j]?=some e->e.long=false)/\Below w.heap.size w wr) (λiv _=>n-(intOf iv).toNat)
 case atStart=>exact⟨0,Qq _,rfl,Zd (λj e hj=>by omega),Qb _ _⟩
 case round =>
  obtain⟨i,y,rfl,aw,aH⟩:=hrel;by_cases hin:i<n
  case neg =>
   exact Em
  have fw:decide ((i:Int)<(n:Int))=true:=Gv Gk;obtain⟨g,o,r,rfl,he,c0,hL⟩:=(h.out.below aH).at_ hin;have hC:=Zd (λW1=>Zw6 r.A r.n r.c W1 hL.nlen);clear hL;by_cases hx:12<r.n
  ·obtain rfl:b=true:=by
     rw[<- hb.out,Qp];exact⟨r,Qg he,by unfold RX.long;simpa using hx⟩
   exact CY
  have ay:Hid (∀ j e,j<i+1->rs[j]?=some e->e.long=false):=Zd (λj e' hj he'=>by
    rcases Qo j i with h'|h';exact aw.out j e' h' he';obtain rfl:j=i:=Gk;rw[he]at he';cases he';unfold RX.long;simpa using hx)
  exact CZ
theorem Zud(A:Option Addr)(n c:Nat)(rs:List RX)(w:World)(h:MXL w A n c rs)(b:Bool)(hb:rs.any RX.long=b) :
    Calls Tryz.prog 105 #[.slice A n c,.func (.func 171) #[] #[]] w λe w'=>e=.returned (.bool b)/\Below w.heap.size w w':=by
 go_in;go_wp2_with fail;refine(Zw2 A n c rs w h b hb).mono ?_;exact EY
structure RI where
 A:Option Addr
 n:Nat
 c:Nat
 l:List Int
def MIL(w:World)(A:Option Addr)(n c:Nat)(rs:List RI):Prop:=
 rs.length=n/\n<=c/\c<=maxLen/\(∀ r ∈ rs,LimI w r.A r.n r.c r.l)/\(0<n->∃ g o,A=some ⟨g,o,none⟩/\∀ (k:Nat) (r:RI),rs[k]?=some r->w.cell? ⟨g,o+k,none⟩=some (.slice r.A r.n r.c))
section
variable{w w':World}{A:Option Addr}{n c:Nat}{rs:List RI}
theorem MIL.below(h:MIL w A n c rs)(hb:Below w.heap.size w w'):MIL w' A n c rs:=by
 obtain⟨h1,h2,h3,h4,h5⟩:=h;refine⟨h1,h2,h3,λr hr=>(h4 r hr).below hb,λhn=>?_⟩;obtain⟨g,o,e,hc⟩:=h5 hn;exact⟨g,o,e,λk r hr=>(hb.cell (Zp (hc k r hr))).trans (hc k r hr)⟩
theorem MIL.at_(h:MIL w A n c rs){i:Nat}(hi:i<n):∃ g o r,A=some ⟨g,o,none⟩/\rs[i]?=some r/\w.cell? ⟨g,o+i,none⟩=some (.slice r.A r.n r.c)/\LimI w r.A r.n r.c r.l:=by
 obtain⟨h1,h2,h3,h4,h5⟩:=h;obtain⟨g,o,e,hc⟩:=h5 Gk;obtain⟨r,hr⟩:∃ r,rs[i]?=some r:=⟨_,Qh Gk⟩;exact⟨g,o,r,e,hr,hc i r hr,h4 r (Qg hr)⟩
theorem LimI.nlen{l:List Int}(h:LimI w A n c l):n<=maxLen:=Qn h.2.1 h.2.2.1
end
def Zqe(least x:Int):Bool:=decide (x<least) || decide (1099511627776<x)
def Zit(least:Int)(l:List Int):Bool:=l.any (Zqe least)
theorem Iv{G:Prop}(h:G:=by
 go_in;go_wp2_with fail;go_ret;exact⟨by simp[Zqe,t1],by first|exact Below.refl _ _|exact Zh (Below.refl _ _) _⟩):G:=h
theorem Zxb(x least:Int)(g:Nat)(w:World)(hc:w.cell? ⟨g,0,none⟩=some (.int .i64 least))(b:Bool)(hb:Zqe least x=b) :
    Calls Tryz.prog 138 #[.int .i64 x,.pointer (some ⟨g,0,none⟩)] w λe w'=>e=.returned (.bool b)/\Below w.heap.size w w':=by
 subst hb;by_cases h1:x<least
 ·have t1:decide (x<least)=true:=Gv h1
  exact Iv
 have t1:decide (x<least)=false:=Gu h1;exact Iv
theorem Zyk(A:Option Addr)(n c:Nat)(l:List Int)(least:Int)(p:Nat)(w:World)(h:LimI w A n c l)(hp:w.cell? ⟨p,0,none⟩=some (.int .i64 least))(b:Bool)(hb:Zit least l=b) :
    Calls Tryz.prog 125 #[.slice A n c,.func (.func 138) #[] #[.pointer (some ⟨p,0,none⟩)]] w (IdxB w b):=by
 have hl:=h.1;have O:=h.2.1;have y:=h.2.2.1;unfold maxLen at y;have hg:=Zd h.2.2.2.2;clear h;replace hl:=Zd hl;replace hb:=Zd hb;replace hp:=Zd hp;go_in;go_wp2_with fail
 go_loopw [8] (λiv wr=>∃ i:Nat,i<=n/\iv=.int .i64 i/\Hid (∀ j,j<i->Zqe least (l[j]?.getD 0)=false)/\Below w.heap.size w wr) (λiv _=>n-(intOf iv).toNat)
 case atStart=>exact⟨0,Qq _,rfl,Zd (λj hj=>by omega),Qb _ _⟩
 case round =>
  obtain⟨i,J,rfl,f,aH⟩:=hrel;by_cases hin:i<n
  case neg =>
   obtain rfl:n=i:=Gk;have C:decide ((n:Int)<(n:Int))=false:=Gh
   obtain rfl:b=false:=by
    rw[<- hb.out];unfold Zit;rw[List.any_eq_false];intro e he;obtain⟨j,hj,I⟩:=List.getElem_of_mem he;have:=f.out j (by rw[hl.out]at hj;exact hj);rw[Qh hj,I]at this;simp only[Option.getD_some]at this;rw[this];decide
   exact Fh
  have C:decide ((i:Int)<(n:Int))=true:=Gv Gk;obtain⟨g,o,rfl,u⟩:=hg.out Gk;have c0:=(aH.cell (Zp (u i hin))).trans (u i hin);have hC:=Zd (λW1 (h1:Below wr.heap.size wr W1)=>Zxb (l[i]?.getD 0) least p W1 ((h1.cell (Nat.lt_of_lt_of_le (Zp hp.out) aH.size)).trans ((aH.cell (Zp hp.out)).trans hp.out)));clear u;obtain⟨x,hx⟩:=Gz (Zqe least (l[i]?.getD 0));cases x
  ·have ay:Hid (∀ j,j<i+1->Zqe least (l[j]?.getD 0)=false):=Zd (λj hj=>by
     rcases Qo j i with h'|h';exact f.out j h';obtain rfl:j=i:=Gk;exact hx)
   replace hx:=Zd hx;generalize l[i]?.getD 0=z at *;go_wp2_with fail;refine(hC.out _ (by first|exact Qb _ _|exact Zh (Qb _ _) _) _ hx.out).mono ?_;exact Eo
  obtain rfl:b=true:=by
    rw[<- hb.out];unfold Zit;rw[Qp];refine⟨l[i]?.getD 0,?_,hx⟩;have:=hl.out;rw[Qh Gk];exact List.getElem_mem _
  replace hx:=Zd hx;generalize l[i]?.getD 0=z at *;go_wp2_with fail;refine(hC.out _ (by first|exact Qb _ _|exact Zh (Qb _ _) _) _ hx.out).mono ?_;exact Ek
theorem Zvy(A:Option Addr)(n c:Nat)(l:List Int)(least:Int)(p:Nat)(w:World)(h:LimI w A n c l)(hp:w.cell? ⟨p,0,none⟩=some (.int .i64 least))(b:Bool)(hb:Zit least l=b) :
    Calls Tryz.prog 77 #[.slice A n c,.func (.func 138) #[] #[.pointer (some ⟨p,0,none⟩)]] w λe w'=>e=.returned (.bool b)/\Below w.heap.size w w':=by
 go_in;go_wp2_with fail;refine(Zyk A n c l least p w h hp b hb).mono ?_;exact EY
theorem Zg7(A:Option Addr)(n c:Nat)(l:List Int)(least:Int)(w:World)(h:LimI w A n c l)(b:Bool)(hb:Zit least l=b) :
    Calls Tryz.prog 90 #[.slice A n c,.int .i64 least] w λe w'=>e=.returned (.bool b)/\Below w.heap.size w w':=by
 obtain⟨W0,u,f,q0,s0⟩:=Zao w 2 #[.int .i64 least];have q1:=(q0.cell 0:W0.cell? ⟨w.heap.size,0,none⟩=some (.int .i64 least));have hC:=Zd (λW1 (h1:Below W0.heap.size W0 W1)=>Zvy A n c l least w.heap.size W1 ((h.below f).below h1) ((h1.cell (Zp q1)).trans q1) b hb);clear h;go_in;go_wp2_with fail;refine(hC.out _ (by first|exact Qb _ _|exact Zh (Qb _ _) _)).mono ?_;rintro e w1 ⟨rfl,o⟩;go_wp2_with fail;go_ret;exact⟨rfl,Gs f o⟩
theorem Zw1(A:Option Addr)(n c:Nat)(w:World)(hn:n<=maxLen) :
    Calls Tryz.prog 89 #[.slice A n c] w λe w'=>e=.returned (.bool (decide (12<n)))/\Below w.heap.size w w':=by
 exact By
def RI.long(r:RI):Bool:=decide (12<r.n)
theorem Zxx(A:Option Addr)(n c:Nat)(rs:List RI)(w:World)(h:MIL w A n c rs)(b:Bool)(hb:rs.any RI.long=b) :
    Calls Tryz.prog 79 #[.slice A n c,.func (.func 89) #[] #[]] w (IdxB w b):=by
 have hl:=h.1;have u:=h.2.1;have f:=h.2.2.1;unfold maxLen at f;replace hl:=Zd hl;replace hb:=Zd hb;replace h:=Zd h;go_in;go_wp2_with fail
 go_loopw [8] (λiv wr=>∃ i:Nat,i<=n/\iv=.int .i64 i/\Hid (∀ j e,j<i->rs[j]?=some e->e.long=false)/\Below w.heap.size w wr) (λiv _=>n-(intOf iv).toNat)
 case atStart=>exact⟨0,Qq _,rfl,Zd (λj e hj=>by omega),Qb _ _⟩
 case round =>
  obtain⟨i,y,rfl,aw,aH⟩:=hrel;by_cases hin:i<n
  case neg =>
   exact Em
  have fw:decide ((i:Int)<(n:Int))=true:=Gv Gk;obtain⟨g,o,r,rfl,he,c0,hL⟩:=(h.out.below aH).at_ hin;have hC:=Zd (λW1=>Zw1 r.A r.n r.c W1 hL.nlen);clear hL;by_cases hx:12<r.n
  ·obtain rfl:b=true:=by
     rw[<- hb.out,Qp];exact⟨r,Qg he,by unfold RI.long;simpa using hx⟩
   exact CY
  have ay:Hid (∀ j e,j<i+1->rs[j]?=some e->e.long=false):=Zd (λj e' hj he'=>by
    rcases Qo j i with h'|h';exact aw.out j e' h' he';obtain rfl:j=i:=Gk;rw[he]at he';cases he';unfold RI.long;simpa using hx)
  exact CZ
theorem Zvs(A:Option Addr)(n c:Nat)(rs:List RI)(w:World)(h:MIL w A n c rs)(b:Bool)(hb:rs.any RI.long=b) :
    Calls Tryz.prog 41 #[.slice A n c,.func (.func 89) #[] #[]] w λe w'=>e=.returned (.bool b)/\Below w.heap.size w w':=by
 go_in;go_wp2_with fail;refine(Zxx A n c rs w h b hb).mono ?_;exact EY
