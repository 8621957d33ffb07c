/- Distances as a form of two vectors: that of the direction -/
import Derived.Test.YthappeninglakaaGreatZt19
set_option maxRecDepth 100000
set_option maxHeartbeats 8000000
set_option linter.unusedSimpArgs false
set_option linter.unusedVariables false
namespace Go.Proofs.YthappeninglakaaGreat
open Go.RowKit
open Nat renaming le_refl→Qa,lt_of_le_of_lt→Qf,lt_of_lt_of_le→Qg,le_trans→Qm
open Act renaming put→Qb
open List renaming replicate→Qc,getElem?_map→Qd,mem_of_getElem?→Qe,length_map→Qi,getElem?_range→Qk,map_congr_left→Ql
open Below renaming refl→Qh
open Rat renaming mul_nonneg→Qj
def zV(A:Nat->Nat->Rat)(n:Nat)(x:Nat->Rat)(s:Nat):Rat:=Zr (brd A x n) s s n
def bil(A:Nat->Nat->Rat)(n:Nat)(x y:Nat->Rat):Rat:=Zu n (λs=>zV A n x s*zV A n y s/dQ A s)
section
variable{A:Nat->Nat->Rat}{n:Nat}
theorem Zzu(x y:Nat->Rat):bil A n x y=bil A n y x:=by
 unfold bil;exact Zy λs _=>by rw[Rat.mul_comm]
theorem Zo9{x y z:Nat->Rat}(h:∀ i,i<n->x i=y i):bil A n x z=bil A n y z:=by
 unfold bil;refine Zy λs hs=>?_
 have h1:zV A n x s=zV A n y s:=by
  unfold zV
  exact Zcs (n:=n) (m:=n+1) (λi k hi hk=>by
   unfold brd;rw[Gx hi,Gx hi]
   split
   rfl;exact h i hi) Gk s s n Gk hs Gk
 rw[h1]
end
open Go.RowKit
attribute [local go_sem] Zg
structure Zsl (A:Nat->Nat->Rat) (n:Nat) (x:Nat->Rat):Prop where
 a:∀ t i,t<=i->i<n->Sm (Zr (brd A x n) t i n)
 l:∀ i t,t<i->i<n->Sm (lQ A i t)
 ly:∀ i t,t<i->i<n->Sm (lQ A i t*Zr (brd A x n) t t n)
 zz:∀ i,i<n->Sm (zV A n x i*zV A n x i)
 d:∀ i,i<n->Sm (dQ A i)
 q:∀ i,i<n->Sm (zV A n x i*zV A n x i/dQ A i)
 s:∀ i,i<=n->Sm (Zu i (λs=>zV A n x s*zV A n x s/dQ A s))
def zL(A:Nat->Nat->Rat)(n:Nat)(x:Nat->Rat)(i:Nat):List Rat:=(List.range i).map (zV A n x)
section
variable{A:Nat->Nat->Rat}{n i k:Nat}{x:Nat->Rat}
theorem Zt5:(zL A n x i).length=i:=by simp[zL]
theorem zL_at(h:k<i):(zL A n x i)[k]?.getD 0=zV A n x k:=by simp[zL,h]
theorem zL_succ:zL A n x (i+1)=zL A n x i ++ [zV A n x i]:=by simp[zL,List.range_succ]
theorem Zo2(hki:k<i)(hi:i<n):Zr (brd A x n) (k+1) i n=Zr (brd A x n) k i n-lQ A i k*zV A n x k:=by
 rw[Zyy hki,brd_l x hi Gk];rfl
end
theorem sumF2(s q:Rat):sumF [s,q] 2=s+q:=by
 show (0+s)+q=_
 grind
theorem Zen{a b:Rat}(h:Sm a):∀ j,j<1->Sm (Ziy a [b] j):=λj hj=>by
 obtain rfl:j=0:=Gk;exact h
theorem Zfo{b:Rat}(h:Sm b):∀ j:Nat,j<1->Sm ([b][j]?.getD 0):=λj hj=>by
 obtain rfl:j=0:=Gk;exact h
theorem Zqn{a b:Rat}(h:Sm a):∀ j,j<2->Sm (sumF [a,b] j):=λj hj=>by
 rcases(show j=0 \/ j=1 by omega)with rfl|rfl;exact(SmN.int (i:=2) (n:=0) GY).sm Gj Gj
 have e:sumF [a,b] 1=a:=by
   show 0+a=a
   grind
 rw[e];exact h
theorem Zty{a b:Rat}(h:Sm a)(k:Sm b):∀ j:Nat,j<2->Sm ([a,b][j]?.getD 0):=λj hj=>by
 rcases(show j=0 \/ j=1 by omega)with rfl|rfl;exact h;exact k
theorem Zh0(a b:Rat):Ziy a [b] 1=a*b:=rfl
theorem Zzr(A1 A2 V:Option Addr)(n c1 c2 cv:Nat)(AQ:Nat->Nat->Rat)(xs:List Rat)(w:World)(hn6:n<=6)(hM:MFL w A1 n c1 (Zha AQ n))(hD:FL w A2 n c2 (dsL AQ n))(hV:FL w V n cv xs)(hp:posP AQ n)(hS:Zsl AQ n (λi=>xs[i]?.getD 0)) :
    Calls Tryz.prog 66 #[.agg #[.slice A1 n c1,.slice A2 n c2],.slice V n cv] w (Zdn w (bil AQ n (λi=>xs[i]?.getD 0) (λi=>xs[i]?.getD 0))):=by
 obtain⟨iN,hi,υ2,υ8,t5⟩:=info_parts Zpq;have hmx:=Gt;have o0:=hV.cap;have υ4:=hM.2.1;have l5:=hM.2.2.1;have n4:=hD.cap;unfold maxLen at o0 l5 n4;obtain⟨X,m9⟩:∃ X:Nat->Rat,(λi:Nat=>xs[i]?.getD 0)=X:=⟨_,rfl⟩;have hxs:Hid (∀ i:Nat,xs[i]?.getD 0=X i):=Za (λi=>by rw[<- m9]);rw[m9]at hS ⊢;replace hS:=Za hS;replace hp:=Za hp;clear m9;obtain⟨W0,q1,h7,⟨qf,qr⟩,s0⟩:=Zdl w 99 #[.slice A1 n c1,.slice A2 n c2] 73 #[.bool false,.slice none 0 0,.bool false,.slice none 0 0];obtain⟨gf,k5⟩:=Gz w.heap.size;replace hM:=Za (hM.below h7);replace hD:=Za (hD.below h7);replace hV:=Za (hV.below h7);rw[k5]at qf qr s0;replace h7:=Za h7;replace qf:=Za qf;replace qr:=Za qr;have v4:=Za s0;clear s0;go_in;go_wp2_with fail;(try rw[q1]);(try rw[k5]);clear q1;replace k5:=Za k5;refine(Zuu 0 W0 Gj Gj).mono ?_;rintro e w1 ⟨h8,sn,sA,sk,sc,sm,sB,sj,sd,rfl,sf⟩;replace hM:=Za (hM.out.below h8);replace hD:=Za (hD.out.below h8);replace hV:=Za (hV.out.below h8);replace qf:=Gm h8 qf;replace qr:=Gm h8 qr;have k9:=Gn h7 h8;clear h7 h8;replace sf:=Za sf;have r9:=hM;have υ7:=hD;have t8:=hV;have j5:=k9;have r6:=qf;have p0:=qr;clear hM hD hV;obtain⟨g3,g9⟩:=Gz w1.heap.size;obtain⟨V5,o3,q7,g0⟩:=Zaw (w:=w1) 73 #[.bool sn,.slice sA sk sc,.bool sm,.slice sB sj sd];rw[g9]at q7;have l4:=Za g0;replace qf:=Gm g0 qf;replace qr:=Gm g0 qr
 replace sf:=Za (sf.out.below g0);have w4:=Gn k9 g0;clear k9 g0;replace q7:=Za q7;have o5:Hid (w1.heap.size+1=V5.heap.size):=Za (by rw[<- o3];simp);go_wp2_with fail;(try rw[g9]);(try rw[o3]);clear o3;replace g9:=Za g9;have s6:Hid (Zu 0 (λs=>zV AQ n X s*zV AQ n X s/dQ AQ s)=((0:Int):Rat)):=Za rfl;replace sf:Hid (Fr V5 sn sA sk sc sm sB sj sd (Zu 0 (λs=>zV AQ n X s*zV AQ n X s/dQ AQ s))):=Za (by rw[s6.out];exact sf.out)
 have o9:Hid (V5.heap.size=g3+1/\gf+1<g3):=Za ⟨by
  have h2:=g9.out;have h3:=o5.out;omega,by
  have h2:=g9.out;have h5:=p0.out.lt;omega⟩
 clear s6 qf qr
 go_loopg [6,7,8,9,10,11,15] n (λt yv v7 v8 v9 v10 v11 iv wr=>∃ (i:Nat) (sn:Bool) (sA:Option Addr) (sk sc:Nat) (sm:Bool) (sB:Option Addr) (sj sd:Nat),i+t=n/\iv=.int .i64 i/\Hid (OwnF 73 wr V5.heap.size yv (zL AQ n X i))/\Hid (Blk wr g3 73 #[.bool sn,.slice sA sk sc,.bool sm,.slice sB sj sd])/\Hid (Fr wr sn sA sk sc sm sB sj sd (Zu i (λs=>zV AQ n X s*zV AQ n X s/dQ AQ s)))/\Hid (Kept (λk=>k=g3) V5 wr))
 case atStart=>exact⟨0,_,_,_,_,_,_,_,_,by omega,rfl,Za (OwnF.nil _ _ _),q7,sf,Za (Kept.refl _ _)⟩
 case round =>
  obtain⟨wi,rfl⟩:=Gy wr;clear q7 sf;obtain⟨i,sn,sA,sk,sc,sm,sB,sj,sd,v5,rfl,hO,qs,hs,hK⟩:=hrel;have h4:Hid (Below w1.heap.size w1 wi):=Za (l4.out.trans (hK.out.to_below (λk e=>by rw[e];exact Nat.le_of_eq g9.out) l4.out.size));have w0:=h4.out.size;obtain⟨x4,w6⟩:=o9.out;have w2:=hK.out.size;have s2:w1.heap.size=g3:=g9.out;obtain⟨Ay,cy,ey,k4⟩:=hO.out.fl;rw[Zt5]at ey k4;subst ey;have υ3:=k4.cap;unfold maxLen at υ3;replace k4:=Za k4;replace s2:=Za s2;cases gk with
  | zero =>
   obtain rfl:i=n:=Gk;have t1:decide ((i:Int)<(i:Int))=false:=Gh;have qR:=Zc h4.out p0.out;obtain⟨c0,c1,c2,c3,z0,z1,z2,z3⟩:=qR.four;obtain⟨x0,x1,x2,x3,-⟩:=qs.out.four;obtain⟨W5,i2,q5,f8,s5⟩:=Zav sn sA sk sc sm sB sj sd qR;go_wp2_with fail;(try rw[i2]);obtain⟨r0,r1,r2,r3,-⟩:=q5.four;refine bodyPost_ret (v:=.agg #[.bool sn,.slice sA sk sc,.bool sm,.slice sB sj sd]) (by simp[results,Tryz.results66,go_sem,r0,r1,r2,r3]) rfl ?_;refine⟨?_,_,_,_,_,_,_,_,_,rfl,hs.out.keptN f8 qR (Za9 _ _ _ _ _ _ _ _)⟩;exact(Gs j5.out h4.out).trans (f8.to_below (λk e=>by have:=k5.out;omega) (by have:=j5.out.size;omega))
  | succ t' =>
   obtain rfl:t'=n-(i+1):=Gk;have d7:i<n:=Gk;have t1:decide ((i:Int)<(n:Int))=true:=Gv Gk;have bi:(i:Int)<(n:Int):=Gk;obtain⟨gv,ov,fn,fA,fk,fc,fm,fB,fj,fd,rfl,⟨f0,f1,f2,f3⟩,hf⟩:=(t8.out.below h4.out).at_ d7;rw[hxs.out]at hf;obtain⟨V8,k0,q8,g0⟩:=Zaw (w:=wi) 41 #[.bool fn,.slice fA fk fc,.bool fm,.slice fB fj fd];obtain⟨V9,j8,q9,p7⟩:=Zaw (w:=V8) 73 #[.bool fn,.slice fA fk fc,.bool fm,.slice fB fj fd];obtain⟨g8,k7⟩:=Gz wi.heap.size;have o2:V8.heap.size=g8+1:=by rw[<- k0,<- k7];simp
   have n2:V9.heap.size=g8+1+1:=by rw[<- j8,<- o2];simp
   rw[o2]at q9;have j0:Below wi.heap.size wi V9:=Gs g0 p7
   have p6:Hid (Fr V9 fn fA fk fc fm fB fj fd (Zr (brd AQ X n) 0 i n)):=Za (by
    have e:Zr (brd AQ X n) 0 i n=X i:=by
     show brd AQ X n i n=X i;unfold brd;rw[Gx d7,Gw (Nat.lt_irrefl _)]
    rw[e];exact hf.below j0)
   replace j0:=Za j0;replace q9:=Za q9;replace k7:=Za k7;replace k0:=Za k0;replace j8:=Za j8;replace n2:=Za n2;clear q8 g0 p7 o2 hf;go_wp2_with fail;rw[k0.out,k7.out,j8.out];clear k0 j8 f0 f1 f2 f3
   go_loopg [10,11,24] i (λt v10 v11 kv wk=>∃ (k:Nat) (an:Bool) (aA:Option Addr) (ak ac:Nat) (am:Bool) (aB:Option Addr) (aj ad:Nat),k+t=i/\kv=.int .i64 k/\Hid (Blk wk (g8+1) 73 #[.bool an,.slice aA ak ac,.bool am,.slice aB aj ad])/\Hid (Fr wk an aA ak ac am aB aj ad (Zr (brd AQ X n) k i n))/\Hid (Kept (λk=>k=g8+1) V9 wk))
   case atStart=>exact⟨0,_,_,_,_,_,_,_,_,by omega,rfl,q9,p6,Za (Kept.refl _ _)⟩
   case round =>
    clear q9 p6;obtain⟨wk,rfl⟩:=Gy wr;obtain⟨k,an,aA,ak,ac,am,aB,aj,ad,w9,rfl,qa,hA,f5⟩:=hrel;have υ9:=k7.out;have v0:=n2.out;have h6:Hid (Below wi.heap.size wi wk):=Za (j0.out.trans (f5.out.to_below (λk e=>by omega) Gk));have m3:Hid (Below w1.heap.size w1 wk):=Za (Gs h4.out h6.out);have v6:=h6.out.size;cases gk with
    | succ t' =>
     obtain rfl:t'=i-(k+1):=Gk;have g2:k<i:=Gk;have t2:decide ((k:Int)<(i:Int))=true:=Gv Gk;have bk:(k:Int)<(i:Int):=Gk;obtain⟨gy,oy,bn,bA,l9,bc,bm,bB,bj,bd,rfl,⟨b0,b1,b2,b3⟩,hb⟩:=(k4.out.below h6.out).at_ g2;rw[zL_at g2]at hb;obtain⟨gm,om,Ar,nr,cr,m8,m0,hR⟩:=(r9.out.below m3.out).at_ d7;subst m8;rw[Zmu d7]at hR;obtain rfl:i=nr:=by rw[<- hR.len,Zf5]
     have t9:=hR.cap;unfold maxLen at t9;obtain⟨gr,or_,ln,lA,lk,lc,lm,lB,lj,ld,rfl,⟨l0,l1,l2,l3⟩,hl⟩:=hR.at_ g2;rw[Zly g2]at hl;clear hR;have f9:=Za hb;have m7:=Za hl;have f7:=Za (Zc m3.out r6.out);clear hb hl;obtain⟨f4,h0⟩:=Gz wk.heap.size;obtain⟨c7,j4,c8,d8⟩:=Zaw (w:=wk) 73 #[.bool bn,.slice bA l9 bc,.bool bm,.slice bB bj bd];rw[h0]at c8;replace qa:=Gm d8 qa;replace hA:=Za (hA.out.below d8);replace f5:=Za (f5.out.below d8);replace f9:=Za (f9.out.below d8);replace m7:=Za (m7.out.below d8);replace f7:=Gm d8 f7;have g7:=Gn h6 d8;clear h6 d8;replace c8:=Za c8;go_wp2_with fail;(try rw[h0]);(try rw[j4]);clear j4;replace h0:=Za h0;have n9:Hid (Below w1.heap.size w1 c7):=Za (Gs h4.out g7.out);obtain⟨w3,w5,x5,υ5,s9,m8,m1,hR⟩:=(r9.out.below n9.out).at_ d7;cases m8;rw[Zmu d7]at hR;obtain rfl:i=υ5:=by rw[<- hR.len,Zf5]
     have q3:=hR.cap;unfold maxLen at q3;obtain⟨j7,j6,p4,q2,p1,r7,p2,p5,o8,s3,t0,⟨e3,e1,e2,e5⟩,o1⟩:=hR.at_ g2;subst t0;rw[Zly g2]at o1;have g4:=Za o1;clear o1 hR m0 l0 l1 l2 l3 m7;have a8:c7.cell? ⟨g8+1,0,none⟩=some (.bool an):=qa.out.cell 0;have b4:c7.cell? ⟨g8+1,1,none⟩=some (.slice aA ak ac):=qa.out.cell 1;have b6:c7.cell? ⟨g8+1,2,none⟩=some (.bool am):=qa.out.cell 2;have b7:c7.cell? ⟨g8+1,3,none⟩=some (.slice aB aj ad):=qa.out.cell 3;have b9:c7.cell? ⟨f4,0,none⟩=some (.bool bn):=c8.out.cell 0;have a9:c7.cell? ⟨f4,1,none⟩=some (.slice bA l9 bc):=c8.out.cell 1;have c4:c7.cell? ⟨f4,2,none⟩=some (.bool bm):=c8.out.cell 2;have b5:c7.cell? ⟨f4,3,none⟩=some (.slice bB bj bd):=c8.out.cell 3;have b8:c7.cell? ⟨gf,0,none⟩=some (.slice (some ⟨gm,om,none⟩) n c1):=f7.out.cell 0;have y:Below c7.heap.size c7 c7.drew:=Zf (Qh _ _) 1;replace qa:=Gm y qa;replace hA:=Za (hA.out.below y);replace f5:=Za (f5.out.below y);replace f9:=Za (f9.out.below y);replace f7:=Gm y f7;replace c8:=Gm y c8;replace g4:=Za (g4.out.below y);have i4:=Gn g7 y;clear g7;replace m1:=Zb y m1;replace e3:=Zb y e3;replace e1:=Zb y e1;replace e2:=Zb y e2;replace e5:=Zb y e5;replace a8:=Zb y a8
     replace b4:=Zb y b4;replace b6:=Zb y b6;replace b7:=Zb y b7;replace b9:=Zb y b9;replace a9:=Zb y a9;replace c4:=Zb y c4;replace b5:=Zb y b5;replace b8:=Zb y b8;clear y;refine Zx [13] (λwx=>(wx.cell? ⟨gm,om+i,none⟩=some (.slice (some ⟨j7,j6,none⟩) i s9))/\(wx.cell? ⟨j7,j6+k*4,none⟩=some (.bool p4))/\(wx.cell? ⟨j7,j6+k*4+1,none⟩=some (.slice q2 p1 r7))/\(wx.cell? ⟨j7,j6+k*4+2,none⟩=some (.bool p2))/\(wx.cell? ⟨j7,j6+k*4+3,none⟩=some (.slice p5 o8 s3))/\(wx.cell? ⟨g8+1,0,none⟩=some (.bool an))/\(wx.cell? ⟨g8+1,1,none⟩=some (.slice aA ak ac))/\(wx.cell? ⟨g8+1,2,none⟩=some (.bool am))/\(wx.cell? ⟨g8+1,3,none⟩=some (.slice aB aj ad))/\(wx.cell? ⟨f4,0,none⟩=some (.bool bn))/\(wx.cell? ⟨f4,1,none⟩=some (.slice bA l9 bc))/\(wx.cell? ⟨f4,2,none⟩=some (.bool bm))/\(wx.cell? ⟨f4,3,none⟩=some (.slice bB bj bd))/\(wx.cell? ⟨gf,0,none⟩=some (.slice (some ⟨gm,om,none⟩) n c1))) hmx ⟨m1,e3,e1,e2,e5,a8,b4,b6,b7,b9,a9,c4,b5,b8⟩ (λ_=>?_);refine Zj5 10 [0,1,2,3,4,5,6,7,8,9] rfl Gi ⟨m1,e3,e1,e2,e5,a8,b4,b6,b7,b9,a9,c4,b5,b8⟩ ?_
     iterate 10 (refine tkA ?_;try simp only[Qb,Zg7,Zgl,Zg1,Gr,Gq,Gp])
     refine tk0 ?_;obtain⟨p9,g6⟩:=Gz c7.drew.heap.size;obtain⟨r4,k3,e4,I⟩:=Zaw (w:=c7.drew) 73 #[.bool bn,.slice bA l9 bc,.bool bm,.slice bB bj bd];rw[g6]at e4;refine wpAnyL_o 10 λK hK=>?_;go_simp;(try rw[g6]);(try rw[k3]);clear k3;replace qa:=Gm I qa;replace hA:=Za (hA.out.below I);replace f5:=Za (f5.out.below I);replace f9:=Za (f9.out.below I);replace f7:=Gm I f7;replace c8:=Gm I c8;replace g4:=Za (g4.out.below I);have i6:=Gn i4 I;clear i4;replace m1:=Zb I m1;replace e3:=Zb I e3;replace e1:=Zb I e1;replace e2:=Zb I e2;replace e5:=Zb I e5;replace a8:=Zb I a8;replace b4:=Zb I b4;replace b6:=Zb I b6;replace b7:=Zb I b7;replace b9:=Zb I b9;replace a9:=Zb I a9;replace c4:=Zb I c4;replace b5:=Zb I b5;replace b8:=Zb I b8;clear I;replace e4:=Za e4;replace g6:=Za g6;refine hK.out _ _ (λ_=>⟨m1,e3,e1,e2,e5,a8,b4,b6,b7,b9,a9,c4,b5,b8⟩) ?_;clear hK K
     try simp only[Qb,Zg7,Zgl,Zg1,Gr,Gq,Gp]
     have d4:=FL.sing1 e4.out f9.out;replace d4:=Za d4;have sl:Sm (lQ AQ i k):=hS.out.l i k g2 d7;have sz:Sm (zV AQ n X k):=hS.out.a k k (Qa _) Gk;refine wpAnyL_o 11 λK hK=>?_;go_simp;refine(Zc2 p4 q2 p1 r7 p2 p5 o8 s3 _ (some ⟨p9,0,none⟩) 1 1 [zV AQ n X k] r4 g4.out d4.out Gj (Zen sl) (Zfo sz)).mono ?_;rintro e q0 ⟨o,pn,pA,pk,pc,pm,pB,pj,pd,rfl,pf⟩;replace qa:=Gm o qa;replace hA:=Za (hA.out.below o);replace f5:=Za (f5.out.below o);replace f9:=Za (f9.out.below o);replace f7:=Gm o f7;replace c8:=Gm o c8;replace g4:=Za (g4.out.below o);replace e4:=Gm o e4;replace d4:=Za (d4.out.below o);have i5:=Gn i6 o;clear i6;replace m1:=Zb o m1;replace e3:=Zb o e3;replace e1:=Zb o e1;replace e2:=Zb o e2;replace e5:=Zb o e5;replace a8:=Zb o a8;replace b4:=Zb o b4;replace b6:=Zb o b6;replace b7:=Zb o b7;replace b9:=Zb o b9;replace a9:=Zb o a9;replace c4:=Zb o c4;replace b5:=Zb o b5;replace b8:=Zb o b8;clear o;rw[Zh0]at pf;replace pf:=Za pf;refine hK.out _ _ (λ_=>⟨m1,e3,e1,e2,e5,a8,b4,b6,b7,b9,a9,c4,b5,b8⟩) ?_;clear hK K
     try simp only[Qb,Zg7,Zgl,Zg1,Gr,Gq,Gp]
     refine wpAnyL_o 12 λK hK=>?_;go_simp;refine(Zez an am pn pm aA aB pA pB ak ac aj ad pk pc pj pd _ _ q0 hA.out pf.out (hS.out.a k i Gk d7) (hS.out.ly i k g2 d7)).mono ?_;rintro e j1 ⟨f,rn,rA,rk,rc,rm,rB,rj,rd,rfl,rf⟩;replace qa:=Gm f qa;replace hA:=Za (hA.out.below f);replace f5:=Za (f5.out.below f);replace f9:=Za (f9.out.below f);replace f7:=Gm f f7;replace c8:=Gm f c8;replace g4:=Za (g4.out.below f);replace e4:=Gm f e4;replace d4:=Za (d4.out.below f);replace pf:=Za (pf.out.below f);have υ0:=Gn i5 f;clear i5;replace m1:=Zb f m1;replace e3:=Zb f e3;replace e1:=Zb f e1;replace e2:=Zb f e2;replace e5:=Zb f e5;replace a8:=Zb f a8;replace b4:=Zb f b4;replace b6:=Zb f b6;replace b7:=Zb f b7;replace b9:=Zb f b9;replace a9:=Zb f a9;replace c4:=Zb f c4;replace b5:=Zb f b5;replace b8:=Zb f b8;clear f;rw[<- Zo2 g2 d7]at rf;replace rf:=Za rf;refine hK.out _ _ (λ_=>⟨m1,e3,e1,e2,e5,a8,b4,b6,b7,b9,a9,c4,b5,b8⟩) ?_;clear hK K
     try simp only[Qb,Zg7,Zgl,Zg1,Gr,Gq,Gp]
     obtain⟨n0,o6,n5,m6⟩:j1.frozen? ⟨g8+1,0,none⟩=false/\j1.frozen? ⟨g8+1,1,none⟩=false/\j1.frozen? ⟨g8+1,2,none⟩=false/\j1.frozen? ⟨g8+1,3,none⟩=false:=⟨qa.out.frozen 0,qa.out.frozen 1,qa.out.frozen 2,qa.out.frozen 3⟩;obtain⟨W5,i2,q5,f8,s5⟩:=Zav rn rA rk rc rm rB rj rd qa.out;refine Zv (i:=13) rfl Gi Gi (λK hK=>?_);go_simp;(try rw[i2]);refine hK.out _ _ ?_;clear hK K
     try simp only[Qb,Zg7,Zgl,Zg1,Gr,Gq,Gp]
     have n8:=Za (rf.out.keptN f8 qa.out (Za9 _ _ _ _ _ _ _ _));have j9:Hid (Kept (λk=>k=g8+1) V9 W5):=Za (Kept.trans f5.out f8);have o7:=Za q5;clear n0 o6 n5 m6 i2 f8 s5 q5 rf pf hA qa d4 e4 sl sz;refine wpAnyL_fin ?_;clear m1 e3 e1 e2 e5 a8 b4 b6 b7 b9 a9 c4 b5 b8;go_wp2_with fail
     go_roundg (i-(k+1))
     case measure=>omega
     case rel=>exact⟨k+1,_,_,_,_,_,_,_,_,by omega,by go_num,o7,n8,j9⟩
    | zero =>
     obtain rfl:k=i:=Gk;have t2:decide ((k:Int)<(k:Int))=false:=Gh;have n3:Zr (brd AQ X n) k k n=zV AQ n X k:=rfl;rw[n3]at hA;obtain⟨Y1,p8,qz,j3⟩:=Zaw (w:=wk) 73 #[.bool an,.slice aA ak ac,.bool am,.slice aB aj ad];obtain⟨gz,o4⟩:=Gz wk.heap.size;rw[o4]at qz;have i9:Below wi.heap.size wi Y1:=Gs h6.out j3;have q4:=hO.out.kept i9;have m4:=hA.out.below j3;have n7:=(hK.out.below i9).size;have t7:(zL AQ n X k).length+1<=1000:=by rw[Zt5];omega
     obtain⟨a0,a1,a2,a3,-⟩:=qa.out.four;replace n3:=Za n3;go_wp2_with ((try rw[p8]);(try rw[o4]);at_builtin;refine Zds _ rfl (.tmp 43) (.tmp 45) 97 rfl V5.heap.size 73 iN Tryz.underlying97 hi υ2 υ8 t5 _ _ rfl q4 _ (some ⟨gz,0,none⟩) 1 1 [⟨an,aA,ak,ac,am,aB,aj,ad,zV AQ n X k⟩] rfl (Zcw _ qz) rfl (by intro e he;rw[List.mem_singleton]at he;subst he;exact m4) t7 n7 ?_;intro v7 w7 k2 l6 n6);simp only[List.map_cons,List.map_nil]at k2;rw[<- zL_succ]at k2;obtain⟨t4,t3,e7,k8⟩:=k2.fl;rw[Zt5]at e7 k8;subst e7;have s8:=k8.cap;unfold maxLen at s8;have l8:∀ q,(Value.slice Ay k cy).ownBlock=some q->V5.heap.size<=q/\q<wi.heap.size:=λq e=>⟨hO.out.row_ge q e,hO.out.blt q e⟩;have n1:Kept (λq=>q=g3) V5 w7:=Kept.grownC (hK.out.below i9) l6 (λq e=>(l8 q e).1);have h1:Hid (Below w1.heap.size w1 w7):=Za (l4.out.trans (n1.to_below (λq e=>by rw[e];exact Nat.le_of_eq g9.out) l4.out.size))
     have c6:Hid (Blk w7 g3 73 #[.bool sn,.slice sA sk sc,.bool sm,.slice sB sj sd]):=Za ((l6.block g3 (by have:=i9.size;omega) (λe=>by
      have h9:=(l8 g3 (by first|exact e|exact e.symm)).1;omega)).trans (Zc i9 qs.out))
     have d6:Hid (Blk w7 (g8+1) 73 #[.bool an,.slice aA ak ac,.bool am,.slice aB aj ad]):=Za ((l6.block (g8+1) (by have:=j3.size;have:=qa.out.lt;omega) (λe=>by
      have h9:=(l8 (g8+1) (by first|exact e|exact e.symm)).2;omega)).trans (Zc j3 qa.out))
     have e0:Hid (Fr w7 sn sA sk sc sm sB sj sd (Zu k (λs=>zV AQ n X s*zV AQ n X s/dQ AQ s))):=Za ((hs.out.below i9).of_keep n6);have d9:Hid (Fr w7 an aA ak ac am aB aj ad (zV AQ n X k)):=Za (m4.of_keep n6);obtain⟨gd,od,dn,dA,dk,dc,dm,dB,dj,dd,υ1,⟨d0,d1,d2,d3⟩,hd⟩:=(υ7.out.below h1.out).at_ d7;subst υ1;rw[Zqc d7]at hd;have e9:=Za hd;have e8:=Za (Zc h1.out r6.out);have t6:=Za k2;have e6:=Za n1;have v3:=Za n7;have w8:g3<V5.heap.size:=Gk
     replace k8:=Za k8;clear hd k2 n1 p8 o4 j3 i9 q4 m4 n7 n6 l6 l8 a0 a1 a2 a3 qz;have d5:Hid (Below w7.heap.size w7 w7):=Za (Qh _ _);go_wp2_with fail;have a4:w7.cell? ⟨g3,0,none⟩=some (.bool sn):=c6.out.cell 0;have J:w7.cell? ⟨g3,1,none⟩=some (.slice sA sk sc):=c6.out.cell 1;have a6:w7.cell? ⟨g3,2,none⟩=some (.bool sm):=c6.out.cell 2;have O:w7.cell? ⟨g3,3,none⟩=some (.slice sB sj sd):=c6.out.cell 3;have Y:w7.cell? ⟨g8+1,0,none⟩=some (.bool an):=d6.out.cell 0;have a7:w7.cell? ⟨g8+1,1,none⟩=some (.slice aA ak ac):=d6.out.cell 1;have U:w7.cell? ⟨g8+1,2,none⟩=some (.bool am):=d6.out.cell 2;have a5:w7.cell? ⟨g8+1,3,none⟩=some (.slice aB aj ad):=d6.out.cell 3;have T:w7.cell? ⟨gf,1,none⟩=some (.slice (some ⟨gd,od,none⟩) n c2):=e8.out.cell 1;have u:Below w7.heap.size w7 w7.drew:=Zf (Qh _ _) 1;replace d5:=Gn d5 u;replace c6:=Gm u c6;replace d6:=Gm u d6;replace e0:=Za (e0.out.below u);replace d9:=Za (d9.out.below u);replace e9:=Za (e9.out.below u);replace e8:=Gm u e8;replace e6:=Za (e6.out.below u);have i8:=Gn h1 u;clear h1;replace a4:=Zb u a4;replace J:=Zb u J;replace a6:=Zb u a6;replace O:=Zb u O;replace Y:=Zb u Y;replace a7:=Zb u a7
     replace U:=Zb u U;replace a5:=Zb u a5;replace T:=Zb u T;replace d0:=Zb u d0;replace d1:=Zb u d1;replace d2:=Zb u d2;replace d3:=Zb u d3;clear u;refine Zx [13] (λwx=>(wx.cell? ⟨g3,0,none⟩=some (.bool sn))/\(wx.cell? ⟨g3,1,none⟩=some (.slice sA sk sc))/\(wx.cell? ⟨g3,2,none⟩=some (.bool sm))/\(wx.cell? ⟨g3,3,none⟩=some (.slice sB sj sd))/\(wx.cell? ⟨g8+1,0,none⟩=some (.bool an))/\(wx.cell? ⟨g8+1,1,none⟩=some (.slice aA ak ac))/\(wx.cell? ⟨g8+1,2,none⟩=some (.bool am))/\(wx.cell? ⟨g8+1,3,none⟩=some (.slice aB aj ad))/\(wx.cell? ⟨gf,1,none⟩=some (.slice (some ⟨gd,od,none⟩) n c2))/\(wx.cell? ⟨gd,od+k*4,none⟩=some (.bool dn))/\(wx.cell? ⟨gd,od+k*4+1,none⟩=some (.slice dA dk dc))/\(wx.cell? ⟨gd,od+k*4+2,none⟩=some (.bool dm))/\(wx.cell? ⟨gd,od+k*4+3,none⟩=some (.slice dB dj dd))) hmx ⟨a4,J,a6,O,Y,a7,U,a5,T,d0,d1,d2,d3⟩ (λ_=>?_);refine Zj5 8 [0,1,2,5,6,7,8,9] rfl Gi ⟨a4,J,a6,O,Y,a7,U,a5,T,d0,d1,d2,d3⟩ ?_
     iterate 8 (refine tkA ?_;try simp only[Qb,Zg7,Zgl,Zg1,Gr,Gq,Gp])
     refine tk0 ?_;obtain⟨s7,g5⟩:=Gz w7.drew.heap.size;obtain⟨s1,k6,c9,C⟩:=Zaw (w:=w7.drew) 73 #[.bool an,.slice aA ak ac,.bool am,.slice aB aj ad];rw[g5]at c9;refine wpAnyL_o 3 λK hK=>?_;go_simp;(try rw[g5]);(try rw[k6]);clear k6;replace d5:=Gn d5 C;replace c6:=Gm C c6;replace d6:=Gm C d6;replace e0:=Za (e0.out.below C);replace d9:=Za (d9.out.below C);replace e9:=Za (e9.out.below C);replace e8:=Gm C e8;replace e6:=Za (e6.out.below C);have i3:=Gn i8 C;clear i8;replace a4:=Zb C a4;replace J:=Zb C J;replace a6:=Zb C a6;replace O:=Zb C O;replace Y:=Zb C Y;replace a7:=Zb C a7;replace U:=Zb C U;replace a5:=Zb C a5;replace T:=Zb C T;replace d0:=Zb C d0;replace d1:=Zb C d1;replace d2:=Zb C d2;replace d3:=Zb C d3;clear C;replace c9:=Za c9;replace g5:=Za g5;refine hK.out _ _ (λ_=>⟨a4,J,a6,O,Y,a7,U,a5,T,d0,d1,d2,d3⟩) ?_;clear hK K
     try simp only[Qb,Zg7,Zgl,Zg1,Gr,Gq,Gp]
     have d4:=Za (FL.sing1 c9.out d9.out);have szz:Sm (zV AQ n X k):=hS.out.a k k (Qa _) d7;have q6:dQ AQ k≠0:=hp.out.ne d7;refine wpAnyL_o 4 λK hK=>?_;go_simp;refine(Zc2 an aA ak ac am aB aj ad _ (some ⟨s7,0,none⟩) 1 1 [zV AQ n X k] s1 d9.out d4.out Gj (Zen szz) (Zfo szz)).mono ?_;rintro e s4 ⟨o,pn,pA,pk,pc,pm,pB,pj,pd,rfl,pf⟩;replace d5:=Gn d5 o;replace c6:=Gm o c6;replace d6:=Gm o d6;replace e0:=Za (e0.out.below o);replace d9:=Za (d9.out.below o);replace e9:=Za (e9.out.below o);replace e8:=Gm o e8;replace e6:=Za (e6.out.below o);replace c9:=Gm o c9;replace d4:=Za (d4.out.below o);have i0:=Gn i3 o;clear i3;replace a4:=Zb o a4;replace J:=Zb o J;replace a6:=Zb o a6;replace O:=Zb o O;replace Y:=Zb o Y;replace a7:=Zb o a7;replace U:=Zb o U;replace a5:=Zb o a5;replace T:=Zb o T;replace d0:=Zb o d0;replace d1:=Zb o d1;replace d2:=Zb o d2;replace d3:=Zb o d3;clear o;rw[Zh0]at pf;replace pf:=Za pf;refine hK.out _ _ (λ_=>⟨a4,J,a6,O,Y,a7,U,a5,T,d0,d1,d2,d3⟩) ?_;clear hK K
     try simp only[Qb,Zg7,Zgl,Zg1,Gr,Gq,Gp]
     refine wpAnyL_o 10 λK hK=>?_;go_simp;refine(Zso pn pm dn dm pA pB dA dB pk pc pj pd dk dc dj dd _ _ s4 pf.out e9.out (hS.out.zz k d7) (hS.out.d k d7) q6).mono ?_;rintro e m2 ⟨c5,qn,qA,qk,qc,qm,qB,qj,qd,rfl,qf⟩;replace d5:=Gn d5 c5;replace c6:=Gm c5 c6;replace d6:=Gm c5 d6;replace e0:=Za (e0.out.below c5);replace d9:=Za (d9.out.below c5);replace e9:=Za (e9.out.below c5);replace e8:=Gm c5 e8;replace e6:=Za (e6.out.below c5);replace c9:=Gm c5 c9;replace d4:=Za (d4.out.below c5);replace pf:=Za (pf.out.below c5);have i7:=Gn i0 c5;clear i0;replace a4:=Zb c5 a4;replace J:=Zb c5 J;replace a6:=Zb c5 a6;replace O:=Zb c5 O;replace Y:=Zb c5 Y;replace a7:=Zb c5 a7;replace U:=Zb c5 U;replace a5:=Zb c5 a5;replace T:=Zb c5 T;replace d0:=Zb c5 d0;replace d1:=Zb c5 d1;replace d2:=Zb c5 d2;replace d3:=Zb c5 d3;clear c5;replace qf:=Za qf;refine hK.out _ _ (λ_=>⟨a4,J,a6,O,Y,a7,U,a5,T,d0,d1,d2,d3⟩) ?_;clear hK K
     try simp only[Qb,Zg7,Zgl,Zg1,Gr,Gq,Gp]
     obtain⟨r5,g1⟩:=Gz m2.heap.size;obtain⟨p3,k1,f6,h⟩:=Zaw (w:=m2) 73 #[.bool sn,.slice sA sk sc,.bool sm,.slice sB sj sd,.bool qn,.slice qA qk qc,.bool qm,.slice qB qj qd];rw[g1]at f6;refine wpAnyL_o 11 λK hK=>?_;go_simp;(try rw[g1]);(try rw[k1]);clear k1;replace d5:=Gn d5 h;replace c6:=Gm h c6;replace d6:=Gm h d6;replace e0:=Za (e0.out.below h);replace d9:=Za (d9.out.below h);replace e9:=Za (e9.out.below h);replace e8:=Gm h e8;replace e6:=Za (e6.out.below h);replace c9:=Gm h c9;replace d4:=Za (d4.out.below h);replace pf:=Za (pf.out.below h);replace qf:=Za (qf.out.below h);have i1:=Gn i7 h;clear i7;replace a4:=Zb h a4;replace J:=Zb h J;replace a6:=Zb h a6;replace O:=Zb h O;replace Y:=Zb h Y;replace a7:=Zb h a7;replace U:=Zb h U;replace a5:=Zb h a5;replace T:=Zb h T;replace d0:=Zb h d0;replace d1:=Zb h d1;replace d2:=Zb h d2;replace d3:=Zb h d3;clear h;replace f6:=Za f6;replace g1:=Za g1;refine hK.out _ _ (λ_=>⟨a4,J,a6,O,Y,a7,U,a5,T,d0,d1,d2,d3⟩) ?_;clear hK K
     try simp only[Qb,Zg7,Zgl,Zg1,Gr,Gq,Gp]
     have l7:=Za (FL.pair2 f6.out e0.out qf.out);refine wpAnyL_o 12 λK hK=>?_;go_simp;refine(Zq5 (some ⟨r5,0,none⟩) 2 2 [_,_] p3 l7.out Gj (Zqn (hS.out.s k Gk)) (Zty (hS.out.s k Gk) (hS.out.q k d7))).mono ?_;rintro e j2 ⟨f,rn,rA,rk,rc,rm,rB,rj,rd,rfl,rf⟩;replace d5:=Gn d5 f;replace c6:=Gm f c6;replace d6:=Gm f d6;replace e0:=Za (e0.out.below f);replace d9:=Za (d9.out.below f);replace e9:=Za (e9.out.below f);replace e8:=Gm f e8;replace e6:=Za (e6.out.below f);replace c9:=Gm f c9;replace d4:=Za (d4.out.below f);replace pf:=Za (pf.out.below f);replace qf:=Za (qf.out.below f);replace f6:=Gm f f6;replace l7:=Za (l7.out.below f);have υ6:=Gn i1 f;clear i1;replace a4:=Zb f a4;replace J:=Zb f J;replace a6:=Zb f a6;replace O:=Zb f O;replace Y:=Zb f Y;replace a7:=Zb f a7;replace U:=Zb f U;replace a5:=Zb f a5;replace T:=Zb f T;replace d0:=Zb f d0;replace d1:=Zb f d1;replace d2:=Zb f d2;replace d3:=Zb f d3;clear f;rw[sumF2]at rf;replace rf:=Za rf;refine hK.out _ _ (λ_=>⟨a4,J,a6,O,Y,a7,U,a5,T,d0,d1,d2,d3⟩) ?_;clear hK K
     try simp only[Qb,Zg7,Zgl,Zg1,Gr,Gq,Gp]
     obtain⟨n0,o6,n5,m6⟩:j2.frozen? ⟨g3,0,none⟩=false/\j2.frozen? ⟨g3,1,none⟩=false/\j2.frozen? ⟨g3,2,none⟩=false/\j2.frozen? ⟨g3,3,none⟩=false:=⟨c6.out.frozen 0,c6.out.frozen 1,c6.out.frozen 2,c6.out.frozen 3⟩;obtain⟨W5,i2,q5,f8,s5⟩:=Zav rn rA rk rc rm rB rj rd c6.out;refine Zv (i:=13) rfl Gi Gi (λK hK=>?_);go_simp;(try rw[i2]);refine hK.out _ _ ?_;clear hK K
     try simp only[Qb,Zg7,Zgl,Zg1,Gr,Gq,Gp]
     have n8:Hid (Fr W5 rn rA rk rc rm rB rj rd (Zu (k+1) (λs=>zV AQ n X s*zV AQ n X s/dQ AQ s))):=Za (rf.out.keptN f8 c6.out (Za9 _ _ _ _ _ _ _ _));have j9:Hid (Kept (λq=>q=g3) V5 W5):=Za (Kept.trans e6.out f8);have m5:=t6.out.kept d5.out;have r8:Hid (OwnF 73 W5 V5.heap.size (.slice t4 (k+1) t3) (zL AQ n X (k+1))):=Za (m5.keptG c6.out (Za9 _ _ _ _ _ _ _ _) (λe=>by have:=m5.row_ge g3 e;omega) f8);have o7:=Za q5;clear n0 o6 n5 m6 i2 f8 s5 q5 rf pf qf e0 d9 c6 d6 d4 l7 c9 f6 szz q6 m5;refine wpAnyL_fin ?_;clear a4 J a6 O Y a7 U a5 T d0 d1 d2 d3;go_wp2_with fail
     go_roundg (n-(k+1))
     case measure=>omega
     case rel=>exact⟨k+1,_,_,_,_,_,_,_,_,by omega,by go_num,r8,o7,n8,j9⟩
section
variable{rs:List RX}{i k E:Int}
end
theorem MFL.ents{w:World}{g o n c:Nat}{Q:List (List Rat)}(h:MFL w (some ⟨g,o,none⟩) n c Q)(hr:∀ i,i<n->(Q[i]?.getD []).length=n){I:Nat}(hI:I<n):∃ gi oi ci,w.cell? ⟨g,o+I,none⟩=some (.slice (some ⟨gi,oi,none⟩) n ci)/\n<=ci/\ci<=maxLen/\∀ K,K<n->∃ na A1 n1 c1 nb B m d,At4 w gi (oi+K*4) na A1 n1 c1 nb B m d/\Fr w na A1 n1 c1 nb B m d (Zi Q I K):=by
 obtain⟨A',n',c',h1,h2⟩:=h.atS hI;have hl:=h2.len;rw[hr I hI]at hl;subst hl;obtain⟨gi,oi,-,-,-,-,-,-,-,-,rfl,-,-⟩:=h2.at_ (k:=0) Gk;refine⟨gi,oi,c',h1,h2.cap.1,h2.cap.2,λK hK=>?_⟩;obtain⟨g9,o9,na,A1,n1,c1,nb,B,m,d,e,h3,h4⟩:=h2.at_ hK;cases e;exact⟨_,_,_,_,_,_,_,_,h3,h4⟩
theorem Zus(a:Rat):0<=a*a:=by
 rcases Rat.le_total (a:=0) (b:=a)with h|h;exact Qj h h;have e:a*a=(-a)*(-a):=by grind
 have h2:0 <= -a:=Rat.neg_le_neg h |> λh3=>by rw[Rat.neg_zero]at h3;exact h3
 rw[e];exact Qj h2 h2
theorem Zpn{A:Nat->Nat->Rat}{n:Nat}(hA:∀ i k,i<n->k<n->A i k=A k i)(hp:posP A n){k:Nat}(hk:k<n):∀ f t,t+f=k->0<Zr A t k k
 | 0,t,h=>by
  obtain rfl:t=k:=Gk;exact hp t hk
 | f+1,t,h=>by
  have h1:=Zpn hA hp hk f (t+1) Gk;have hd:=hp t Gk;have h2:=Zmh hA (t:=t) (i:=k) (k:=k) Gk (Qa _) hk (hp.ne Gk);have h3:=Qj (Zus (lQ A k t)) (Rat.le_of_lt hd);have e:Zr A t k k=Zr A (t+1) k k+lQ A k t*lQ A k t*dQ A t:=by rw[h2];grind
  rw[e];have h6:Zr A (t+1) k k<=Zr A (t+1) k k+lQ A k t*lQ A k t*dQ A t:=by grind
  exact Rat.not_le.1 λh5=>Rat.not_le.2 h1 (Rat.le_trans h6 h5)
theorem Zr6{rs:List RX}(h0:Zbg rs=0){k:Nat}(hk:k<rs.length):0<Zi (qM rs) k k:=by
 obtain⟨h,f,e⟩:=Zi4 h0;exact Zpn (A:=Zi (qM rs)) (n:=rs.length) (λi k hi hk=>symB_iff.1 f i k (by unfold qM;rw[Qi];exact hi) (by unfold qM;rw[Qi];exact hk)) e (k:=k) Gk k 0 Gk
theorem Zut(na:Bool)(A:Option Addr)(n c:Nat)(nb:Bool)(B:Option Addr)(m d:Nat)(w:World):(Instr.field 73 (.agg #[.bool na,.slice A n c,.bool nb,.slice B m d]) 0).run Tryz.prog w=.ok (.agg #[.bool na,.slice A n c,.bool nb,.slice B m d]) w:=by kernel_rfl
theorem MatB.stepN{tS tF:TypeId}{w U:World}{go g:Nat}{L:List RF}(h:MatB tS tF w go L)(hs:Zwb w U g)(h1:go≠g)(h2:∀ r ∈ L,r.g≠g):MatB tS tF U go L:=by
 obtain⟨⟨zs,k1⟩,k2,k3⟩:=h;refine⟨⟨zs,hs.2.1 _ _ _ h1 k1⟩,λr hr=>⟨?_,(k2 r hr).2⟩,k3⟩;obtain⟨es,fs,q1,q2,q3⟩:=(k2 r hr).1;exact⟨es,fs,hs.2.1 _ _ _ (h2 r hr) q1,λe he=>Fr.keep (q2 e he) hs.1,q3⟩
theorem MatB.lts{tS tF:TypeId}{w:World}{go:Nat}{L:List RF}(h:MatB tS tF w go L):go<w.heap.size/\∀ r ∈ L,r.g<w.heap.size:=by
 obtain⟨⟨zs,k1⟩,k2,k3⟩:=h;refine⟨k1.lt,λr hr=>?_⟩;obtain⟨es,fs,q1,q2,q3⟩:=(k2 r hr).1;exact q1.lt
theorem Zf1{w:World}{g:Nat}{t:TypeId}{x x0:Int}{p:Addr}{v:Value}(hb:Blk w g t #[.int .i64 x0])(h:w.cell? p=some v)(hv:v ≠ .int .i64 x0):(w.setCell ⟨g,0,none⟩ (.int .i64 x)).cell? p=some v:=by
 by_cases e:(⟨g,0,none⟩:Addr)=p
 ·subst e
  have h2:=hb.cell 0;rw[h]at h2;simp at h2;exact absurd h2 hv
 exact(World.cell?_setCell_other _ _ _ _ e).trans h
theorem FL.code{w:World}{g:Nat}{t:TypeId}{x x0:Int}{A:Option Addr}{n c:Nat}{qs:List Rat}(h:FL w A n c qs)(hb:Blk w g t #[.int .i64 x0]):FL (w.setCell ⟨g,0,none⟩ (.int .i64 x)) A n c qs:=by
 obtain⟨W,hW,-,-,f⟩:=Za1 x (Qh 0 w) (Nat.zero_le _) hb;obtain⟨es,h1,h2,h3,h4,h5,h6⟩:=h;refine⟨es,h1,h2,h3,λe he=>?_,h5,λhn=>?_⟩;rw[hW];exact Fr.keep (h4 e he) f.1;obtain⟨g1,o1,e1,hc⟩:=h6 hn;refine⟨g1,o1,e1,λk e he=>?_⟩;obtain⟨c1,c2,c3,c4⟩:=hc k e he;exact⟨Zf1 hb c1 Gh,Zf1 hb c2 Gh,Zf1 hb c3 Gh,Zf1 hb c4 Gh⟩
theorem MFL.code{w:World}{g:Nat}{t:TypeId}{x x0:Int}{A:Option Addr}{n c:Nat}{Q:List (List Rat)}(h:MFL w A n c Q)(hb:Blk w g t #[.int .i64 x0]):MFL (w.setCell ⟨g,0,none⟩ (.int .i64 x)) A n c Q:=by
 obtain⟨h1,h2,h3,h4⟩:=h;refine⟨h1,h2,h3,λhn=>?_⟩;obtain⟨g1,o1,e1,hc⟩:=h4 hn;refine⟨g1,o1,e1,λk q hq=>?_⟩;obtain⟨A',n',c',c1,c2⟩:=hc k q hq;exact⟨A',n',c',Zf1 hb c1 Gh,c2.code hb⟩
def OfX(rs:List RI)(ws:List Int)(X:Nat->Nat->Rat):Prop:=
 ofE rs ws=0->OfP rs ws rs.length (n0I rs) X/\Zg9 (λi j=>(Zaf (Zam (n0I rs) 0 0 (Z6 (Zbe (Zc7 rs ws rs.length (n0I rs)) (n0I rs) (n0I rs) 0)) false 1).1 i j:Rat)) X (n0I rs) (n0I rs+n0I rs)
theorem sm8_nrm{rs:List RI}{rr ws:List Int}{n m:Nat}(hn:n<=200)(hE:Zcx rs rr ws=0):∀ r ∈ Zc7 rs ws n m,∀ q ∈ r,Sm8 q:=λr hr q hq=>by
 unfold Zc7 at hr;obtain⟨i,hi,rfl⟩:=List.mem_map.1 hr;obtain⟨j,hj,rfl⟩:=List.mem_map.1 hq;have hb:=Zf9 hn hE i j;have e:Za8 rs ws n i j=((Zce ws (Za3 rs i) (Za3 rs j) n:Int):Rat):=rfl;rw[e]at hb;refine⟨Qf hb.num (Zdj Gj),?_⟩;rw[hb.den];exact Qg Zee (Zbm Gj)
theorem ofS_sm:Sm Zbu:=(SmN.int (i:=3) (n:=1000000000000000000) GY).sm Gj Gj
theorem ofX_sm{rs:List RI}{ws:List Int}{n m:Nat}{X:Nat->Nat->Rat}(hm:m<=12)(h:OfP rs ws n m X){k c:Nat}(hk:k<m)(hc:c<m):Sm (X k (m+c)):=by
 obtain⟨-,D,d1,d2,d3⟩:=h;obtain⟨h1,h2⟩:=(d3 c k hc hk).small d1;exact⟨Qf h1 (Zdj Gk),Qf (Qm h2 d2) (Zdj Gk)⟩
theorem Zps(A C:Option Addr)(n c k e0:Nat)(rs:List RI)(ws:List Int)(X:Nat->Nat->Rat)(w:World)(h:MIL w A n c rs)(hw:LimI w C k e0 ws)(hX:OfX rs ws X)(hF:∀ rt,Zes rt=Zir (ofQ X (n0I rs))->FacC rt) :
    Calls Tryz.prog 10 #[.slice A n c,.slice C k e0] w (OfPost rs ws X w):=by
 have hmx:=Gt;have r6:=h.2.1;have n5:=h.2.2.1;unfold maxLen at n5;have r5:=hw.2.1;have n9:=hw.2.2.1;unfold maxLen at n9;obtain⟨W0,l6,c7,q5,s0⟩:=Zak w 26 #[.int .i64 0];obtain⟨b,hb⟩:=Gz (rs.any RI.long6);have hC:=Za (Zvh A n c rs W0 (h.below c7) b hb);replace h:=Za (h.below c7);replace hw:=Za (hw.below c7);replace hX:=Za hX;replace hF:=Za hF;replace hb:=Za hb;replace q5:=Za q5;replace c7:=Za c7;replace s0:=Za s0
 go_enter_defers Tryz.func10,Tryz.ntmps10
 go_wp2_with fail;(try rw[l6]);clear l6;refine(hC.out).mono ?_;rintro e w1 ⟨rfl,u⟩;replace h:=Za (h.out.below u);replace hw:=Za (hw.out.below u);replace q5:=Gm u q5;have b8:=Gn c7 u;clear c7 u hC;cases b with
 | true =>
  have c4:=Za (Zr1 (ws:=ws) hb.out);go_wp2_with fail;refine(Zbl 4 w1).mono ?_;rintro e w6 ⟨rfl,rfl⟩;go_wp2_with fail;refine leaves_cons (f:=39) (args:=#[.pointer (some ⟨w.heap.size,0,none⟩)]) Gh Gc ?_;have a3:=(q5.out).cell 0;simp at a3;refine(Zb8 ⟨w.heap.size,0,none⟩ 4 0 _ a3 ((q5.out).frozen 0)).mono ?_;rintro e u' w'' ⟨rfl,rfl,T⟩;obtain⟨V,hV,d4,-,-,hk,sV⟩:=Zp 117 #[.int .i64 4] (b8.out) ((b8.out).size);obtain⟨U,hU,e2,q3,-,kq,-⟩:=Za1 4 d4 (Qa _) (hk _ _ _ (q5.out));rw[hV,hU]at T;subst T;have r4:=q3.cell 0;simp at r4;exact⟨.tuple #[.slice none 0 0,.int .i64 4],by simp[results,Tryz.results10,go_sem,r4],OfPost.fall e2 c4.out Gj⟩
 | false =>
  go_wp2_with fail;refine(Zcj 4 w1).mono ?_;rintro e w6 ⟨rfl,rfl⟩;obtain⟨E,hE⟩:=Gz (Zcx rs (Qc (min rs.length 200) 0) ws);have f5:=h.out.1;by_cases hE0:E=0
  case neg =>
   have c4:=Za (Zwe hb.out hE hE0);have d6:Hid (Zcx rs (Qc (min n 200) 0) ws=E):=Za (by rw[<- f5];exact hE);have t1:(E == 0)=false:=by simpa using hE0
   have r1:decide (E=0)=false:=by simpa using hE0
   have q2:(E != 0)=true:=by rw[bne,t1];rfl
   have m5:=Za hE0;replace hE:=Za hE;clear hE0;go_wp2_with fail;refine(Zry A C n c k e0 rs ws w6 h.out hw.out E d6.out m5.out).mono ?_;rintro e w3 ⟨rfl,u⟩;replace h:=Za (h.out.below u);replace hw:=Za (hw.out.below u);replace q5:=Gm u q5;have o0:=Gn b8 u;clear b8 u;obtain⟨U1,s1,h7,h3,-,-,-⟩:=Za1 E o0.out (Qa _) q5.out;obtain⟨y0,z0⟩:_/\_:=⟨q5.out.cell 0,q5.out.frozen 0⟩;have x0:=h3.cell 0;simp at x0 y0;go_wp2_with fail;refine(Zbl E U1).mono ?_;rintro e w7 ⟨rfl,rfl⟩;go_wp2_with fail;refine leaves_cons (f:=39) (args:=#[.pointer (some ⟨w.heap.size,0,none⟩)]) Gh Gc ?_;have a3:=(h3).cell 0;simp at a3;refine(Zb8 ⟨w.heap.size,0,none⟩ E E _ a3 ((h3).frozen 0)).mono ?_;rintro e u' w'' ⟨rfl,rfl,T⟩;obtain⟨V,hV,d4,-,-,hk,sV⟩:=Zp 117 #[.int .i64 E] (h7) ((h7).size);obtain⟨U,hU,e2,q3,-,kq,-⟩:=Za1 E d4 (Qa _) (hk _ _ _ (h3));rw[hV,hU]at T;subst T;have r4:=q3.cell 0;simp at r4;exact⟨.tuple #[.slice none 0 0,.int .i64 E],by simp[results,Tryz.results10,go_sem,r4],OfPost.fall e2 c4.out m5.out⟩
  subst hE0;obtain⟨p1,p2,p3,p4,p5,p6,p7⟩:=Zwj h.out hE;obtain⟨m,hm⟩:=Gz (n0I rs);have n8:k=n:=by rw[<- hw.out.1,p6]
  subst n8;have d6:Zcx rs (Qc k 0) ws=0:=by rw[f5,Nat.min_eq_left p2]at hE;exact hE
  have hN:=Za (λW9 (h9:MIL W9 A k c rs) (k9:LimI W9 C k e0 ws)=>Zjp A C k c e0 m rs ws W9 h9 k9 d6 hm);rw[hm]at p3 p4;have i2:=Za (Zv2 (rs:=rs) (rr:=Qc k 0) (ws:=ws) (n:=k) (m:=m) p2 p4 d6);have l0:=Za (sm8_nrm (rs:=rs) (ws:=ws) (rr:=Qc k 0) (n:=k) (m:=m) p2 d6);have e4:=Za (And.intro (λhd:Zap m (Za8 rs ws k)=0=>Zqa hb.out hE (by rw[hm,f5];exact hd)) (λhd:Zap m (Za8 rs ws k)≠0=>Zu4 hb.out hE (by rw[hm,f5];exact hd)))
  have j3:Hid (Zap m (Za8 rs ws k)≠0->OfP rs ws k m X/\Zg9 (λi j=>(Zaf (Zam m 0 0 (Z6 (Zbe (Zc7 rs ws k m) m m 0)) false 1).1 i j:Rat)) X m (m+m)):=Za (λhd=>by
   have h9:=hX.out;unfold OfX at h9;rw[hm,f5]at h9;exact h9 (e4.out.2 hd))
  have e3:m<=12:=p4;have k8:0<m:=p3;replace d6:=Za d6;replace hE:=Za hE;replace hm:=Za hm;clear p1 p2 p3 p4 p5 p6 p7 hX;go_wp2_with fail;refine(hN.out w6 h.out hw.out).mono ?_;rintro e w5 ⟨gn,rfl,u,h5⟩;replace h:=Za (h.out.below u);replace hw:=Za (hw.out.below u);replace q5:=Gm u q5;have l2:=Gn b8 u;clear b8 u h hw hN;replace h5:=Za h5;obtain⟨U7,i8,c8,c6,j5⟩:=Za1 0 l2.out (Qa _) q5.out;have y0:=q5.out.cell 0;have z0:=q5.out.frozen 0;simp at y0;have x0:=c6.cell 0;simp at x0;have j6:=h5.out.code (x:=0) q5.out;rw[i8]at j6;obtain⟨j4,a0,a5,l4⟩:=j6.mxl l0.out
  have d3:=Zz5 a0 k8 e3 k8 e3 (λr hr=>by
   obtain⟨i9,n4,n7⟩:=List.getElem_of_mem hr;have h9:=l4 i9 r (by rw[List.getElem?_eq_getElem n4,n7]);refine⟨?_,h9.2⟩;rw[h9.1];exact Zff (by have:=a0.1;omega))
  have k7:Hid (sqE j4=0):=Za (by unfold sqE;rw[d3.1,d3.2,a0.1];simp);replace a0:=Za a0;replace a5:=Za a5;replace c8:=Za c8;replace c6:=Za c6;clear j6 h5 l4 d3 j5;go_wp2_with fail;(try rw[i8]);clear i8 q5 l2 y0 z0;have q5:=c6;clear c6;refine(Zcj 0 U7).mono ?_;rintro e w6 ⟨rfl,rfl⟩;clear x0;obtain⟨o1,o2,o3,o4,o5,o6,o7⟩:=i2.out;have k6:(Zam m 0 0 (Z6 (Zbe (Zc7 rs ws k m) m m 0)) false 1).2.1<=m:=by rw[o4];exact o5
  have f8:Hid ((Zam m 0 0 (Z6 (Zbe (Zc7 rs ws k m) m m 0)) false 1).2.1<m->Zap m (Za8 rs ws k)=0):=Za (λh9=>o6 (by rw[<- o4];exact h9));have a9:Hid ((Zam m 0 0 (Z6 (Zbe (Zc7 rs ws k m) m m 0)) false 1).2.1=m->Zap m (Za8 rs ws k)≠0):=Za (λh9=>(o7 (by rw[<- o4];exact h9)).1);have i5:=Za (λW9 (h9:MXL W9 (some ⟨gn,0,none⟩) m m j4)=>Zoc (some ⟨gn,0,none⟩) m m j4 W9 h9 k7.out e3 (by rw[a5.out];exact o1) (by rw[a5.out];exact o3) (by rw[a5.out];exact k6) X (λh8=>by rw[a5.out]at h8 ⊢;exact(j3.out (a9.out h8)).2));clear o1 o2 o3 o4 o5 o6 o7 k6 i2 l0 k7;go_wp2_with fail;refine(i5.out w6 a0.out).mono ?_;rintro e q1 hc;clear i5
  have u:Below w6.heap.size w6 q1:=by
   rcases hc with ⟨-,-,h9⟩|⟨-,gO,L,-,h9,-⟩;exact h9;exact h9
  have j9:Hid (w.heap.size<w6.heap.size):=Za q5.out.lt;clear a0;replace q5:=Gm u q5;have f3:=Gn c8 u;clear c8 u;rcases hc with ⟨j2,rfl,-⟩|⟨h1,gO,L,rfl,-,l7,g6,l9,m3⟩
  case inl =>
   rw[a5.out]at j2;have c4:=Za (e4.out.1 (f8.out j2));clear j2 a5;obtain⟨o8,m6,b4,a8,n0⟩:=Za1 18 f3.out (Qa _) q5.out;have y0:=q5.out.cell 0;have z0:=q5.out.frozen 0;simp at y0;have x0:=a8.cell 0;simp at x0;replace b4:=Za b4;replace a8:=Za a8;go_wp2_with fail;(try rw[m6]);refine(Zbl 22 o8).mono ?_;rintro e w7 ⟨rfl,rfl⟩;go_wp2_with fail;refine leaves_cons (f:=39) (args:=#[.pointer (some ⟨w.heap.size,0,none⟩)]) Gh Gc ?_;have a3:=(a8.out).cell 0;simp at a3;refine(Zb8 ⟨w.heap.size,0,none⟩ 22 18 _ a3 ((a8.out).frozen 0)).mono ?_;rintro e u' w'' ⟨rfl,rfl,T⟩;obtain⟨V,hV,d4,-,-,hk,sV⟩:=Zp 117 #[.int .i64 22] (b4.out) ((b4.out).size);obtain⟨U,hU,e2,q3,-,kq,-⟩:=Za1 22 d4 (Qa _) (hk _ _ _ (a8.out));rw[hV,hU]at T;subst T;have r4:=q3.cell 0;simp at r4;exact⟨.tuple #[.slice none 0 0,.int .i64 22],by simp[results,Tryz.results10,go_sem,r4],OfPost.fall e2 c4.out Gj⟩
  rw[a5.out]at h1;have c4:=Za (e4.out.2 (a9.out h1));have n3:=Za (j3.out (a9.out h1)).1;clear h1 a5 f8 a9 j3 e4;have k2:Hid (w.heap.size<gO/\∀ r ∈ L,w.heap.size<r.g):=Za ⟨Qg j9.out l9,λr hr=>Qg j9.out (m3 r hr)⟩;have m4:Hid (L.length=m):=Za (by have h9:=congrArg List.length g6;rw[Qi]at h9;rw[h9];unfold Zju;simp);obtain⟨n2,i1,Y,c9,e6⟩:=Za1 0 f3.out (Qa _) q5.out;have y0:=q5.out.cell 0;have z0:=q5.out.frozen 0;simp at y0;have x0:=c9.cell 0;simp at x0;have o:=Za (l7.stepN e6 (by have:=k2.out.1;omega) (λr hr=>by have:=k2.out.2 r hr;omega));replace Y:=Za Y;replace c9:=Za c9;clear e6 l7 l9 m3 j9;go_wp2_with fail;(try rw[i1]);clear i1 q5 f3 y0 z0;have q5:=c9;clear c9;refine(Zcj 22 n2).mono ?_;rintro e w6 ⟨rfl,rfl⟩;clear x0;go_wp2_with fail;refine(Zuu 1000000000000000000 w6 Gj Gj).mono ?_;rintro e k4 ⟨g7,sn,sA,sk,sc,sm,sB,sj,sd,rfl,sf⟩;replace q5:=Gm g7 q5;replace o:=Za (o.out.below g7);have g4:=Gn Y g7;clear Y g7;replace sf:=Za sf;have i3:=Za o.out.lts;obtain⟨f6,b5⟩:=Gz k4.heap.size;obtain⟨p9,h6,g1,b6⟩:=Zaw (w:=k4) 73 #[.bool sn,.slice sA sk sc,.bool sm,.slice sB sj sd];rw[b5]at g1;replace q5:=Gm b6 q5;replace o:=Za (o.out.below b6);replace sf:=Za (sf.out.below b6);have i6:=Gn g4 b6;clear g4 b6;replace g1:=Za g1;have n1:Hid (∀ r ∈ L,r.g<f6):=Za (λr hr=>by have h9:=i3.out.2 r hr;have h8:=b5;omega);go_wp2_with fail;(try rw[b5]);(try rw[h6]);clear h6;replace b5:=Za b5;replace sf:Hid (Fr p9 sn sA sk sc sm sB sj sd Zbu):=Za sf.out
  have j7:Hid (∀ (j:Nat) (r:RF),L[j]?=some r->r.q.length=m):=Za (λj r hr=>by
   have h9:(L.map RF.q)[j]?=some r.q:=by rw[Qd,hr];rfl
   rw[g6]at h9;unfold Zju at h9;rw[Qd]at h9;obtain⟨x9,-,e9⟩:=Option.map_eq_some_iff.1 h9;rw[<- e9];simp)
  have d8:Hid (∀ j c,j<m->c<m->Zi (L.map RF.q) j c=X j (m+c)):=Za (λj c hj hc=>by
   rw[g6];unfold Zju Zi;rw[Qd,Qk hj,Option.map_some,Option.getD_some,Qd,Qk Gk];rfl)
  replace g6:=Za g6;clear i3
  go_loopg [38] m (λt iv wr=>∃ (i:Nat) (L2:List RF),i+t=m/\iv=.int .i64 i/\Hid (MatB 35 41 wr gO L2)/\Hid (ScT L L2 m i 0 Zbu)/\Hid (Blk wr f6 73 #[.bool sn,.slice sA sk sc,.bool sm,.slice sB sj sd])/\Hid (Fr wr sn sA sk sc sm sB sj sd Zbu)/\Hid (Blk wr w.heap.size 26 #[.int .i64 0])/\Hid (Below w.heap.size w wr))
  case atStart=>exact⟨0,L,by omega,rfl,o,Za (ScT.start m4.out j7.out),g1,sf,q5,i6⟩
  case round =>
   clear o g1 sf q5 i6;obtain⟨wi,rfl⟩:=Gy wr;obtain⟨i,L2,r2,rfl,o,y,qs,sf,q5,a4⟩:=hrel;cases gk with
   | zero =>
    obtain rfl:i=m:=Gk;have t1:decide ((i:Int)<(i:Int))=false:=Gh
    have o9:Hid (L2.map RF.q=ofQ X i):=Za (by
     rw[y.out.done];unfold ofQ;refine Ql λj hj=>Ql λc hc=>?_;rw[d8.out j c (List.mem_range.1 hj) (List.mem_range.1 hc)])
    have d7:=o.out.mfl y.out.1 (Qa i) (by unfold maxLen;omega);rw[o9.out]at d7;obtain⟨rt,a0,-,e8⟩:=d7.mxs;have m0:=hF.out rt (by rw[hm.out];exact e8);replace d7:=Za d7;replace a0:=Za a0;have l1:=Za (Zx7 (some ⟨gO,0,none⟩) i i rt wi a0.out m0);clear m0 hF o qs sf;go_wp2_with fail;refine l1.out.mono ?_;rintro e w9 ⟨u,k0⟩;replace d7:=Za (d7.out.below u);replace q5:=Gm u q5;have d9:=Gn a4 u;clear a4 u l1;rcases k0 with ⟨d0,rfl⟩|⟨d0,rfl⟩
    case inr =>
     replace d0:=Za d0;go_wp2_with fail;refine leaves_cons (f:=39) (args:=#[.pointer (some ⟨w.heap.size,0,none⟩)]) Gh Gc ?_;have a3:=(q5.out).cell 0;simp at a3;refine(Zb8 ⟨w.heap.size,0,none⟩ 16 0 _ a3 ((q5.out).frozen 0)).mono ?_;rintro e u' w'' ⟨rfl,rfl,T⟩;obtain⟨V,hV,d4,-,-,hk,sV⟩:=Zp 117 #[.int .i64 16] (d9.out) ((d9.out).size);obtain⟨U,hU,e2,q3,-,kq,-⟩:=Za1 16 d4 (Qa _) (hk _ _ _ (q5.out));rw[hV,hU]at T;subst T;have r4:=q3.cell 0;simp at r4;exact⟨.tuple #[.slice none 0 0,.int .i64 16],by simp[results,Tryz.results10,go_sem,r4],⟨e2,.inl ⟨c4.out,rt,by rw[hm.out];exact e8,.inr ⟨d0.out,rfl⟩⟩⟩⟩
    obtain⟨q4,e7,g9,f4,h2⟩:=Za1 0 d9.out (Qa _) q5.out;have y0:=q5.out.cell 0;have z0:=q5.out.frozen 0;simp at y0;have x0:=f4.cell 0;simp at x0;have i4:=Za (d7.out.code (x:=0) q5.out);rw[e7]at i4;replace d0:=Za d0;have r4:=f4.cell 0;simp at r4;clear h2;go_wp2_with fail;(try rw[e7]);refine leaves_cons (f:=39) (args:=#[.pointer (some ⟨w.heap.size,0,none⟩)]) Gh Gc ?_;refine(Zfn _ _).mono ?_;rintro e u' w'' ⟨rfl,rfl,rfl⟩;exact⟨.tuple #[.slice (some ⟨gO,0,none⟩) i i,.int .i64 0],by simp[results,Tryz.results10,go_sem,r4],g9,.inl ⟨c4.out,rt,by rw[hm.out];exact e8,.inl ⟨d0.out,_,_,by rw[hm.out],by rw[hm.out];exact i4.out⟩⟩⟩
   | succ t' =>
    obtain rfl:t'=m-(i+1):=Gk;have b3:i<m:=Gk;have t1:decide ((i:Int)<(m:Int))=true:=Gv Gk;have r9:decide (i<m)=true:=Gv b3;have bi:(i:Int)<(m:Int):=Gk;have q8:IntKind.i64.wrap ((i:Int)+1)=(i:Int)+1:=IntWalk.i64_in _ Gk;obtain⟨ri,f7⟩:=Zb3 (L:=L2) (i:=i) (by rw[y.out.1];exact b3);obtain⟨r0,h4⟩:=Zb3 (L:=L) (i:=i) (by rw[m4.out];exact b3);obtain⟨ci,zi⟩:=o.out.cell f7;rw[y.out.2.2.1 i ri f7]at ci;have kc:=(o.out.row f7).2;rw[y.out.2.2.1 i ri f7]at kc;have q7:=kc.1;have n6:=kc.2;unfold maxLen at n6;have m1:Hid (ri.g=r0.g):=Za (Z09 y.out.2.1 f7 h4);have j1:Hid (w.heap.size<ri.g/\ri.g<f6):=Za (by rw[m1.out];exact⟨k2.out.2 r0 (Qe h4),n1.out r0 (Qe h4)⟩);clear kc;go_wp2_with fail;clear ci zi
    go_loopg [44] m (λt kv wr=>∃ (k9:Nat) (L3:List RF),k9+t=m/\kv=.int .i64 k9/\Hid (MatB 35 41 wr gO L3)/\Hid (ScT L L3 m i k9 Zbu)/\Hid (Blk wr f6 73 #[.bool sn,.slice sA sk sc,.bool sm,.slice sB sj sd])/\Hid (Fr wr sn sA sk sc sm sB sj sd Zbu)/\Hid (Blk wr w.heap.size 26 #[.int .i64 0])/\Hid (Below w.heap.size w wr))
    case atStart=>exact⟨0,L2,by omega,rfl,o,y,qs,sf,q5,a4⟩
    case round =>
     clear o y qs sf q5 a4;obtain⟨wk,rfl⟩:=Gy wr;obtain⟨k9,L3,s2,rfl,o,y,qs,sf,q5,a4⟩:=hrel;cases gk with
     | zero =>
      obtain rfl:k9=m:=Gk;have t2:decide ((k9:Int)<(k9:Int))=false:=Gh;have p8:=Za y.out.next;clear y;go_wp2_with fail
      go_roundg (k9-(i+1))
      case measure=>omega
      case rel=>exact⟨i+1,L3,by omega,by go_num,o,p8,qs,sf,q5,a4⟩
     | succ t'' =>
      obtain rfl:t''=m-(k9+1):=Gk;have b0:k9<m:=Gk;have t2:decide ((k9:Int)<(m:Int))=true:=Gv Gk;have r7:decide (k9<m)=true:=Gv b0;have bk:(k9:Int)<(m:Int):=Gk;have r8:IntKind.i64.wrap ((k9:Int)+1)=(k9:Int)+1:=IntWalk.i64_in _ Gk;obtain⟨r3,b9⟩:=Zb3 (L:=L3) (i:=i) (by rw[y.out.1];exact b3);have b7:r3.g=ri.g:=(Z09 y.out.2.1 b9 h4).trans m1.out.symm;have f0:=y.out.2.2.1 i r3 b9;obtain⟨fn,fA,fk,fc,fm,fB,fj,fd,p0,p1,p2,p3,a2⟩:=(o.out.row b9).1.at_ (i:=k9) (by rw[f0];exact b0);rw[b7]at p0 p1 p2 p3
      have g0:r3.q[k9]?.getD 0=X i (m+k9):=by
       have h9:=y.out.2.2.2 i k9 b3 b0;rw[Gw Gk,Zkj,Zgi b9]at h9;rw[h9];exact d8.out i k9 b3 b0
      rw[g0]at a2;have q0:Hid (Sm (X i (m+k9))):=Za (ofX_sm e3 n3.out b3 b0);replace a2:=Za a2;replace g0:=Za g0;replace b7:=Za b7;replace f0:=Za f0;obtain⟨q6,b1⟩:=Gz wk.heap.size;obtain⟨i0,g2,O,J⟩:=Zaw (w:=wk) 41 #[.bool fn,.slice fA fk fc,.bool fm,.slice fB fj fd];rw[b1]at O;replace o:=Za (o.out.below J);replace qs:=Gm J qs;replace sf:=Za (sf.out.below J);replace q5:=Gm J q5;replace a2:=Za (a2.out.below J);have e1:=Gn a4 J;clear a4 J;replace O:=Za O;obtain⟨x0,x1,x2,x3,-⟩:=O.out.four;obtain⟨υ0,υ1,υ2,υ3,-⟩:=qs.out.four;obtain⟨l3,b2⟩:=Gz i0.heap.size;obtain⟨m8,g5,a1,I⟩:=Zaw (w:=i0) 73 #[.bool sn,.slice sA sk sc,.bool sm,.slice sB sj sd];rw[b2]at a1;replace o:=Za (o.out.below I);replace qs:=Gm I qs;replace sf:=Za (sf.out.below I);replace q5:=Gm I q5;replace a2:=Za (a2.out.below I);replace O:=Gm I O;have d5:=Gn e1 I;clear e1 I;replace a1:=Za a1;go_wp2_with fail;(try rw[b1]);(try rw[g2]);(try rw[b2]);(try rw[g5]);clear g2;replace b1:=Za b1;clear g5;replace b2:=Za b2;clear p0 p1 p2 p3 x0 x1 x2 x3 υ0 υ1 υ2 υ3;have g8:=Za (FL.sing1 a1.out sf.out);refine(Zc2 fn fA fk fc fm fB fj fd _ (some ⟨l3,0,none⟩) 1 1 [Zbu] m8 a2.out g8.out Gj (Zen q0.out) (Zfo ofS_sm)).mono ?_;rintro e c5 ⟨a6,pn,pA,pk,pc,pm,pB,pj,pd,rfl,pf⟩;replace o:=Za (o.out.below a6);replace qs:=Gm a6 qs;replace sf:=Za (sf.out.below a6);replace q5:=Gm a6 q5;replace a2:=Za (a2.out.below a6);replace O:=Gm a6 O;replace a1:=Gm a6 a1;replace g8:=Za (g8.out.below a6);have e5:=Gn d5 a6;clear d5 a6;rw[Zh0]at pf;clear g8 a1 O a2
      obtain⟨l5,m2,m7,k5⟩:(c5.cell? ⟨ri.g,k9*4,none⟩).isSome/\(c5.cell? ⟨ri.g,k9*4+1,none⟩).isSome/\(c5.cell? ⟨ri.g,k9*4+2,none⟩).isSome/\(c5.cell? ⟨ri.g,k9*4+3,none⟩).isSome:=by
       obtain⟨_,_,_,_,_,_,_,_,c0,c1,c2,c3,-⟩:=(o.out.row b9).1.at_ (i:=k9) (by rw[f0.out];exact b0);rw[b7.out]at c0 c1 c2 c3;rw[c0,c1,c2,c3];exact⟨rfl,rfl,rfl,rfl⟩
      obtain⟨v0,c0⟩:=Option.isSome_iff_exists.1 l5;obtain⟨v1,c1⟩:=Option.isSome_iff_exists.1 m2;obtain⟨v2,c2⟩:=Option.isSome_iff_exists.1 m7;obtain⟨v3,c3⟩:=Option.isSome_iff_exists.1 k5;have a7:=(o.out.row b9).1;have z0:=a7.frozen (k9*4);have z1:=a7.frozen (k9*4+1);have z2:=a7.frozen (k9*4+2);have z3:=a7.frozen (k9*4+3);rw[b7.out]at z0 z1 z2 z3;obtain⟨bt,bcs,k3,l8⟩:=a7.box;have h0:=o.out.set_ b9 (k:=k9) (by rw[f0.out];exact b0) pf;obtain⟨U,hU⟩:=Gz (Zgb c5 ri.g k9 pn pA pk pc pm pB pj pd);rw[b7.out]at h0 k3;rw[<- b7.out]at h0
      have f9:MatB 35 41 U gO (L3.set i ⟨r3.g,r3.c,r3.q.set k9 (X i (m+k9)*Zbu)⟩):=by
       rw[<- hU,<- b7.out];exact h0
      have m9:=Za (y.out.step b9 b3 b0 (x:=X i (m+k9)*Zbu) (by rw[d8.out i k9 b3 b0]));have j0:Blk U f6 73 #[.bool sn,.slice sA sk sc,.bool sm,.slice sB sj sd]:=by rw[<- hU];exact Zj4 qs.out (by have:=j1.out;omega)
      have i7:Blk U w.heap.size 26 #[.int .i64 0]:=by rw[<- hU];exact Zj4 q5.out (by have:=j1.out;omega)
      have k1:Fr U sn sA sk sc sm sB sj sd Zbu:=by rw[<- hU];exact Zij sf.out k3 l8
      have j8:Below w.heap.size w U:=by rw[<- hU];exact Zjg e5.out (by have:=j1.out;omega)
      unfold Zgb at hU;replace f9:=Za f9;replace j0:=Za j0;replace i7:=Za i7;replace k1:=Za k1;replace j8:=Za j8;clear o y qs q5 sf a7 k3 l8 h0 l5 m2 m7 k5 e5 pf;have q9:=Zut pn pA pk pc pm pB pj pd;go_wp2_with fail;(try rw[hU])
      go_roundg (m-(k9+1))
      case measure=>omega
      case rel=>exact⟨k9+1,_,by omega,by go_num,f9,m9,j0,k1,i7,j8⟩
theorem Ef{G:Prop}(h:G:=by
 refine⟨?_,_,_,_,_,_,_,_,_,rfl,hr.out⟩;have cf:=bM.trans ((Gs ae aD.out).mono bM.size);exact cf.trans (aL.to_below (λk e=>by omega) cf.size)):G:=h
theorem Zlq(xn:Bool)(xA:Option Addr)(xk xc:Nat)(xm:Bool)(xB:Option Addr)(xj xd:Nat)(yn:Bool)(yA:Option Addr)(yk yc:Nat)(ym:Bool)(yB:Option Addr)(yj yd:Nat)(a b:Rat)(w:World)(ha:Fr w xn xA xk xc xm xB xj xd a)(hb:Fr w yn yA yk yc ym yB yj yd b)(sa:Sm a)(sb:Sm b) :
    Calls Tryz.prog 96 #[.agg #[.bool xn,.slice xA xk xc,.bool xm,.slice xB xj xd],.agg #[.bool yn,.slice yA yk yc,.bool ym,.slice yB yj yd]] w (Zdn w (a-b)):=by
 obtain⟨W0,J,h,⟨q0,q1,q2⟩,s0⟩:=Zb1 w 41 #[.bool xn,.slice xA xk xc,.bool xm,.slice xB xj xd] 41 #[.bool yn,.slice yA yk yc,.bool ym,.slice yB yj yd] 41 #[.bool false,.slice none 0 0,.bool false,.slice none 0 0];obtain⟨a0,a1,a2,a3,-⟩:=q0.four;obtain⟨b0,b1,b2,b3,-⟩:=q1.four;obtain⟨gR,y⟩:=Gz (w.heap.size+1+1);rw[y]at q2;have hA:=ha.below h;have hD:=hb.below h;go_in;go_wp2_with fail;(try rw[J]);refine(Zyb xn xm yn ym xA xB yA yB xk xc xj xd yk yc yj yd a b W0 hA hD sa sb).mono ?_;rintro e w1 ⟨ae,pn,pA,pk,pc,pm,pB,pj,pd,rfl,hf⟩;replace q2:=Zc ae q2;clear a0 a1 a2 a3 b0 b1 b2 b3 q0 q1 hA hD;obtain⟨V1,V,o,t0,tz⟩:=Zak w1 41 #[.bool false,.slice none 0 0,.bool false,.slice none 0 0];have Y:=Zc o q2;obtain⟨gn,u⟩:=Gz w1.heap.size
 have U:gR<gn:=by
  have h1:=ae.size;omega
 rw[u]at t0;obtain⟨υ0,υ1,υ2,υ3,v0,v1,v2,v3⟩:=t0.four;obtain⟨V2,T,p2,I,s2⟩:=Zav pn pA pk pc pm pB pj pd t0;have aD:Below w1.heap.size w1 V2:=o.trans (I.to_below (λk e=>by omega) o.size);have f:=Zc aD q2;have C:=hf.below aD;obtain⟨o0,o1,o2,o3,-⟩:=p2.four;obtain⟨c0,c1,c2,c3,z0,z1,z2,z3⟩:=f.four;obtain⟨W5,O,q5,aL,s5⟩:=Zav pn pA pk pc pm pB pj pd f;have hr:=C.keptN aL f (Za9 _ _ _ _ _ _ _ _);have bM:=h;replace aD:=Za aD;replace hr:=Za hr;clear hf C;go_wp2_with fail;(try rw[u]);(try rw[T]);(try rw[y]);go_wp2_with fail;(try rw[O]);obtain⟨r0,r1,r2,r3,-⟩:=q5.four;refine bodyPost_ret (v:=.agg #[.bool pn,.slice pA pk pc,.bool pm,.slice pB pj pd]) (by simp[results,Tryz.results96,go_sem,r0,r1,r2,r3]) rfl ?_;exact Ef
theorem Zll(xn:Bool)(xA:Option Addr)(xk xc:Nat)(xm:Bool)(xB:Option Addr)(xj xd:Nat)(yn:Bool)(yA:Option Addr)(yk yc:Nat)(ym:Bool)(yB:Option Addr)(yj yd:Nat)(a b:Rat)(w:World)(ha:Fr w xn xA xk xc xm xB xj xd a)(hb:Fr w yn yA yk yc ym yB yj yd b)(sa:Sm a)(sb:Sm b) :
    Calls Tryz.prog 49 #[.agg #[.bool xn,.slice xA xk xc,.bool xm,.slice xB xj xd],.agg #[.bool yn,.slice yA yk yc,.bool ym,.slice yB yj yd]] w (Zdn w (a*b)):=by
 obtain⟨W0,J,h,⟨q0,q1,q2⟩,s0⟩:=Zb1 w 41 #[.bool xn,.slice xA xk xc,.bool xm,.slice xB xj xd] 41 #[.bool yn,.slice yA yk yc,.bool ym,.slice yB yj yd] 41 #[.bool false,.slice none 0 0,.bool false,.slice none 0 0];obtain⟨a0,a1,a2,a3,-⟩:=q0.four;obtain⟨b0,b1,b2,b3,-⟩:=q1.four;obtain⟨gR,y⟩:=Gz (w.heap.size+1+1);rw[y]at q2;have hA:=ha.below h;have hD:=hb.below h;go_in;go_wp2_with fail;(try rw[J]);refine(Zom xn xm yn ym xA xB yA yB xk xc xj xd yk yc yj yd a b W0 hA hD sa sb).mono ?_;rintro e w1 ⟨ae,pn,pA,pk,pc,pm,pB,pj,pd,rfl,hf⟩;replace q2:=Zc ae q2;clear a0 a1 a2 a3 b0 b1 b2 b3 q0 q1 hA hD;obtain⟨V1,V,o,t0,tz⟩:=Zak w1 41 #[.bool false,.slice none 0 0,.bool false,.slice none 0 0];have Y:=Zc o q2;obtain⟨gn,u⟩:=Gz w1.heap.size
 have U:gR<gn:=by
  have h1:=ae.size;omega
 rw[u]at t0;obtain⟨υ0,υ1,υ2,υ3,v0,v1,v2,v3⟩:=t0.four;obtain⟨V2,T,p2,I,s2⟩:=Zav pn pA pk pc pm pB pj pd t0;have aD:Below w1.heap.size w1 V2:=o.trans (I.to_below (λk e=>by omega) o.size);have f:=Zc aD q2;have C:=hf.below aD;obtain⟨o0,o1,o2,o3,-⟩:=p2.four;obtain⟨c0,c1,c2,c3,z0,z1,z2,z3⟩:=f.four;obtain⟨W5,O,q5,aL,s5⟩:=Zav pn pA pk pc pm pB pj pd f;have hr:=C.keptN aL f (Za9 _ _ _ _ _ _ _ _);have bM:=h;replace aD:=Za aD;replace hr:=Za hr;clear hf C;go_wp2_with fail;(try rw[u]);(try rw[T]);(try rw[y]);go_wp2_with fail;(try rw[O]);obtain⟨r0,r1,r2,r3,-⟩:=q5.four;refine bodyPost_ret (v:=.agg #[.bool pn,.slice pA pk pc,.bool pm,.slice pB pj pd]) (by simp[results,Tryz.results49,go_sem,r0,r1,r2,r3]) rfl ?_;exact Ef
theorem Zl9(xn:Bool)(xA:Option Addr)(xk xc:Nat)(xm:Bool)(xB:Option Addr)(xj xd:Nat)(yn:Bool)(yA:Option Addr)(yk yc:Nat)(ym:Bool)(yB:Option Addr)(yj yd:Nat)(a b:Rat)(w:World)(ha:Fr w xn xA xk xc xm xB xj xd a)(hb:Fr w yn yA yk yc ym yB yj yd b)(sa:Sm a)(sb:Sm b)(h0:b≠0) :
    Calls Tryz.prog 95 #[.agg #[.bool xn,.slice xA xk xc,.bool xm,.slice xB xj xd],.agg #[.bool yn,.slice yA yk yc,.bool ym,.slice yB yj yd]] w (Zdn w (a/b)):=by
 obtain⟨W0,J,h,⟨q0,q1,q2⟩,s0⟩:=Zb1 w 41 #[.bool xn,.slice xA xk xc,.bool xm,.slice xB xj xd] 41 #[.bool yn,.slice yA yk yc,.bool ym,.slice yB yj yd] 41 #[.bool false,.slice none 0 0,.bool false,.slice none 0 0];obtain⟨a0,a1,a2,a3,-⟩:=q0.four;obtain⟨b0,b1,b2,b3,-⟩:=q1.four;obtain⟨gR,y⟩:=Gz (w.heap.size+1+1);rw[y]at q2;have hA:=ha.below h;have hD:=hb.below h;go_in;go_wp2_with fail;(try rw[J]);refine(Z00 xn xm yn ym xA xB yA yB xk xc xj xd yk yc yj yd a b W0 hA hD sa sb h0).mono ?_;rintro e w1 ⟨ae,pn,pA,pk,pc,pm,pB,pj,pd,rfl,hf⟩;replace q2:=Zc ae q2;clear a0 a1 a2 a3 b0 b1 b2 b3 q0 q1 hA hD;obtain⟨V1,V,o,t0,tz⟩:=Zak w1 41 #[.bool false,.slice none 0 0,.bool false,.slice none 0 0];have Y:=Zc o q2;obtain⟨gn,u⟩:=Gz w1.heap.size
 have U:gR<gn:=by
  have h1:=ae.size;omega
 rw[u]at t0;obtain⟨υ0,υ1,υ2,υ3,v0,v1,v2,v3⟩:=t0.four;obtain⟨V2,T,p2,I,s2⟩:=Zav pn pA pk pc pm pB pj pd t0;have aD:Below w1.heap.size w1 V2:=o.trans (I.to_below (λk e=>by omega) o.size);have f:=Zc aD q2;have C:=hf.below aD;obtain⟨o0,o1,o2,o3,-⟩:=p2.four;obtain⟨c0,c1,c2,c3,z0,z1,z2,z3⟩:=f.four;obtain⟨W5,O,q5,aL,s5⟩:=Zav pn pA pk pc pm pB pj pd f;have hr:=C.keptN aL f (Za9 _ _ _ _ _ _ _ _);have bM:=h;replace aD:=Za aD;replace hr:=Za hr;clear hf C;go_wp2_with fail;(try rw[u]);(try rw[T]);(try rw[y]);go_wp2_with fail;(try rw[O]);obtain⟨r0,r1,r2,r3,-⟩:=q5.four;refine bodyPost_ret (v:=.agg #[.bool pn,.slice pA pk pc,.bool pm,.slice pB pj pd]) (by simp[results,Tryz.results95,go_sem,r0,r1,r2,r3]) rfl ?_;exact Ef
theorem Zoh(A:Option Addr)(n c:Nat)(es:List FX)(w:World)(h:FXL w A n c es)(b:Bool)(hb:Zc0 es=b) :
    Calls Tryz.prog 56 #[.slice A n c] w λe w'=>e=.returned (.bool b)/\Below w.heap.size w w':=by
 have hl:=h.1;have a9:=h.2.1;have Y:=h.2.2.1;unfold maxLen at Y;replace hl:=Za hl;replace hb:=Za hb;replace h:=Za h;go_in;go_wp2_with fail
 go_loopw [3] (λiv wr=>∃ i:Nat,i<=n/\iv=.int .i64 i/\Hid (∀ j e,j<i->es[j]?=some e->e.fine64=true)/\Below w.heap.size w wr) (λiv _=>n-(intOf iv).toNat)
 case atStart=>exact⟨0,Nat.zero_le _,rfl,Za (λj e hj=>by omega),Qh _ _⟩
 case round =>
  obtain⟨i,a8,rfl,au,u⟩:=hrel;by_cases hin:i<n
  case neg =>
   obtain rfl:n=i:=Gk;have a0:decide ((n:Int)<(n:Int))=false:=Gh
   obtain rfl:b=true:=by
    rw[<- hb.out];unfold Zc0;exact Ek
   go_wp2_with fail;go_ret;exact⟨rfl,u⟩
  have a0:decide ((i:Int)<(n:Int))=true:=Gv Gk;obtain⟨g,o,e,rfl,he,hc,I,C⟩:=(h.out.below u).at_ hin;obtain⟨c0,c1,c2,c3⟩:=hc;have a5:=I.2.1;have V:=I.2.2.1;have a4:=C.2.1;have y:=C.2.2.1;have J:=Qm a5 V;have O:=Qm a4 y;unfold maxLen at V y
  have bad:e.fine64=false->b=false:=λhf=>by
   rw[<- hb.out];unfold Zc0;rw[List.all_eq_false];exact⟨e,Qe he,by rw[hf];decide⟩
  replace bad:=Za bad;have hF:=Za (λW1=>Few_any e.na e.nb e.A e.B e.n e.c e.m e.d W1 J O);obtain⟨x,hx⟩:=Gz e.ok;have hC:=Za (λW1 (hb:Below wr.heap.size wr W1)=>Zsg e.na e.nb e.A e.B e.n e.c e.m e.d e.la e.lb W1 (I.below hb) (C.below hb) x hx);obtain⟨k,hk⟩:=Gz (max e.n e.m);have a7:k<=9223372036854775807:=by unfold maxLen at J O;omega
  rw[hk]at hF;replace hk:=Za hk;clear I C J O;by_cases h1:64<k
  ·have t1:decide ((64:Int)<(k:Int))=true:=Gv Gk
   obtain rfl:b=false:=bad.out (by unfold FX.fine64 FX.few;rw[hk.out,Gu Gk];rfl);replace he:=Za he;replace hx:=Za hx;clear hC;go_wp2_with fail;refine(hF.out _).mono ?_;rintro e' w1 ⟨rfl,y⟩;go_wp2_with fail;go_ret;exact⟨rfl,(by first|exact Gs u y|exact(Zf u _).trans (y.mono u.size))⟩
  have t1:decide ((64:Int)<(k:Int))=false:=Gu Gk;cases x
  ·obtain rfl:b=false:=bad.out (by unfold FX.fine64;rw[hx];simp)
   replace he:=Za he;clear hx;go_wp2_with fail;refine(hF.out _).mono ?_;rintro e' w1 ⟨rfl,f⟩;have a1:=Zb f c0;have a2:=Zb f c1;have a3:=Zb f c2;have a6:=Zb f c3;go_wp2_with fail;refine(hC.out _ (by first|exact f|exact Zf f _)).mono ?_;rintro e' w2 ⟨rfl,T⟩;simp only[Zfq,Bool.false_eq_true,if_false];go_wp2_with fail;go_ret;exact⟨rfl,u.trans ((Gs f T).mono u.size)⟩
  have U:Hid (∀ j e,j<i+1->es[j]?=some e->e.fine64=true):=Za (λj e' hj he'=>by
    rcases Nat.lt_or_ge j i with h'|h';exact au.out j e' h' he';obtain rfl:j=i:=Gk;rw[he]at he';cases he';unfold FX.fine64 FX.few;rw[hx,hk.out,Gv Gk];rfl)
  replace he:=Za he;clear hx;go_wp2_with fail;refine(hF.out _).mono ?_;rintro e' w1 ⟨rfl,f⟩;have a1:=Zb f c0;have a2:=Zb f c1;have a3:=Zb f c2;have a6:=Zb f c3;go_wp2_with fail;refine(hC.out _ (by first|exact f|exact Zf f _)).mono ?_;rintro e' w2 ⟨rfl,T⟩;simp only[Zfq,if_true];go_wp2_with fail
  go_roundw
  case rel=>exact⟨i+1,by omega,by go_num,U,u.trans ((Gs f T).mono u.size)⟩
  case measure=>simp[intOf];omega
