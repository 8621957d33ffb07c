/- The body of the law CovarTrue: the covariance is the -/
import Derived.Test.YthappeninglakaaGreatZt23
set_option maxRecDepth 100000
set_option maxHeartbeats 16000000
set_option linter.unusedSimpArgs false
set_option linter.unusedVariables false
namespace Go.Proofs.YthappeninglakaaGreat
open Go.RowKit
open Act renaming put→Qa
open Below renaming refl→Qb
open List renaming getElem?_eq_getElem→Qc,replicate→Qe,mem_of_mem_take→Qf,getElem_of_mem→Qg,any_eq_false→Qi
open Nat renaming zero_le→Qd,zero_add→Qh
attribute [local go_sem] Zg
theorem Zrr(A C:Option Addr)(n c k e0:Nat)(rs:List RI)(w:World)(h:MIL w A n c rs)(hk:k<=maxLen) :
    Calls Tryz.prog 9 #[.slice A n c,.slice C k e0] w λe w'=>∃ b:Bool,e=.returned (.bool b)/\Below w.heap.size w w'/\(b=false->ModI rs n 0 k):=by
 have hC:=Za (Zk8 A none C n c 0 0 k e0 rs w h (Qd _) hk);go_in;go_wp2_with fail;refine hC.out.mono ?_;rintro e w1 ⟨b,rfl,hb,hm⟩;go_wp2_with fail;go_returns;exact⟨b,rfl,hb,hm⟩
theorem OfPost.shapeT{rs:List RI}{ws:List Int}{X:Nat->Nat->Rat}{w w':World}{e:Ending}(h:OfPost rs ws X w e w'):∃ A n c E,e=.returned (.tuple #[.slice A n c,.int .i64 E]):=by
 rcases h with ⟨-,⟨-,rt,-,⟨-,A,c,rfl,hM⟩|⟨-,rfl⟩⟩|⟨-,rfl⟩⟩;exact⟨_,_,_,_,rfl⟩;exact⟨_,_,_,_,rfl⟩;exact⟨_,_,_,_,rfl⟩
theorem OfPost.casesT{rs:List RI}{ws:List Int}{X:Nat->Nat->Rat}{w w':World}{A:Option Addr}{n c:Nat}{E:Int}(h:OfPost rs ws X w (.returned (.tuple #[.slice A n c,.int .i64 E])) w')(h2:ofE rs ws≠0->ofE rs ws=22):(A=none/\n=0/\c=0/\(E=22 \/ E=16)) \/ (E=0/\n=n0I rs/\ofE rs ws=0/\(∃ rt,Zes rt=Zir (ofQ X (n0I rs))/\Zbg rt=0)/\MFL w' A (n0I rs) c (ofQ X (n0I rs))):=by
 rcases h with ⟨-,⟨h0,rt,f,⟨h9,A1,c1,e,hM⟩|⟨h9,e⟩⟩|⟨h9,e⟩⟩
 ·cases e
  exact .inr ⟨rfl,rfl,h0,⟨rt,f,h9⟩,hM⟩
 ·cases e
  exact .inl ⟨rfl,rfl,rfl,.inr rfl⟩
 have h3:=h2 h9;rw[h3]at e;cases e;exact .inl ⟨rfl,rfl,rfl,.inl rfl⟩
theorem Z1j{w:World}{A:Option Addr}{n c k:Nat}{rs:List RI}{rr ws:List Int}(h:MIL w A n c rs)(hG:ModI rs n 0 k)(hE:Zcx rs rr ws=0)(hn:0<n):rs.any RI.long6=false/\0<n0I rs/\n0I rs<=4/\n<=12/\ws.length=n:=by
 obtain⟨f1,f2,f3,f4,f5,f6,f7,f8⟩:=Zdr hE;have hl:rs.length=n:=h.1
 have h4:∀ r ∈ rs,r.n<=4:=λr hr=>by
  obtain⟨i,hi,rfl⟩:=Qg hr;have h1:=(hG.1 i rs[i] Gk (by have:=hG.2.1;omega) (Qc hi)).1;have h2:=f2 rs[i] hr;omega
 have h0:rs[0]'(by omega) ∈ rs:=List.getElem_mem _;have hm:=(f8 _ h0).1;refine⟨?_,by omega,by rw[<- hm];exact h4 _ h0,by have:=hG.2.1;omega,by omega⟩;rw[Qi];intro r hr;unfold RI.long6;have:=h4 r hr;simp;omega
theorem Z1b{rs:List RI}{ws:List Int}(hb:rs.any RI.long6=false)(hE:Zcx rs (Qe (min rs.length 200) 0) ws=0)(h:ofE rs ws≠0):ofE rs ws=22:=by
 by_cases hd:Zap (n0I rs) (Za8 rs ws rs.length)=0;exact Zqa hb hE hd;exact absurd (Zu4 hb hE hd) h
theorem Zv1(A C:Option Addr)(n c k e0:Nat)(rs:List RI)(ws:List Int)(w:World)(h:MIL w A n c rs)(hw:LimI w C k e0 ws) :
    Calls Tryz.prog 4 #[.slice A n c,.slice C k e0] w λe w'=>e=.returned (.bool true)/\Below w.heap.size w w':=by
 have hmx:=Gt;have n9:=h.2.2.1;have q5:=h.2.1;unfold maxLen at n9;have l4:=hw.2.2.1;have p6:=hw.2.1;unfold maxLen at l4;have l6:=Za h.1;have o6:=Za hw.1;obtain⟨E,hE⟩:=Gz (Zn3 false rs [] ws);replace hE:=Za hE;have j9:Hid (Below w.heap.size w w):=Za (Qb _ _);replace h:=Za h;replace hw:=Za hw;go_in;go_wp2_with fail;refine(Zyh w).mono ?_;rintro e w1 ⟨rfl,y⟩;replace h:=Za (h.out.below y);replace hw:=Za (hw.out.below y);have b7:=Gn j9 y;clear j9 y;go_wp2_with fail;refine(Zrr A C n c k e0 rs w1 h.out (by unfold maxLen;omega)).mono ?_;rintro e w3 ⟨b,rfl,y,g7⟩;replace h:=Za (h.out.below y);replace hw:=Za (hw.out.below y);have e7:=Gn b7 y;clear b7 y;cases b with
 | true =>
  go_wp2_with fail;go_ret;exact⟨rfl,e7.out⟩
 | false =>
  have hG:=Za (g7 rfl);clear g7;by_cases h2:n<2
  case pos =>
   have t2:decide ((n:Int)<2)=true:=Gv Gk;have m8:decide (n<2)=true:=Gv h2;replace h2:=Za h2;go_wp2_with fail;go_ret;exact⟨rfl,e7.out⟩
  have t2:decide ((n:Int)<2)=false:=Gu Gk;have m8:decide (n<2)=false:=Gu h2;have r7:2<=n:=Nat.le_of_not_lt h2;replace h2:=Za h2;go_wp2_with fail;refine(Zn0 A none C n c 0 0 k e0 rs [] ws w3 h.out (Zxy _) hw.out E hE.out).mono ?_;rintro e w5 ⟨rfl,y⟩;replace h:=Za (h.out.below y);replace hw:=Za (hw.out.below y);have h3:=Gn e7 y;clear e7 y;by_cases b2:E=0
  case neg =>
   have t1:(E != 0)=true:=by simpa using b2
   have p9:decide (E=0)=false:=Gu b2;replace b2:=Za b2;go_wp2_with fail;go_ret;exact⟨rfl,h3.out⟩
  subst b2;have hS:Hid (Zcx rs (Qe (min rs.length 200) 0) ws=0):=Za (by rw[<- Zu5];exact hE.out);obtain⟨g1,g2,g3,g4,g5⟩:=Z1j h.out hG.out hS.out Gk;obtain rfl:k=n:=by have:=o6.out;omega
  obtain⟨X,d5,-,h5⟩:=Zup (ws:=ws) h.out hG.out;obtain⟨m,hm⟩:=Gz (n0I rs);rw[hm]at g2 g3;replace d5:=Za d5;replace h5:=Za h5;replace g1:=Za g1;replace hm:=Za hm;clear hE;go_wp2_with fail;refine(Zps A C k c k e0 rs ws X w5 h.out hw.out d5.out h5.out).mono ?_;rintro e w7 ⟨y,hP⟩;replace h:=Za (h.out.below y);replace hw:=Za (hw.out.below y);have d0:=Gn h3 y;clear h3 y
  have g6:(∃ E:Int,e=.returned (.tuple #[.slice none 0 0,.int .i64 E])/\(E=22 \/ E=16)) \/ (ofE rs ws=0/\∃ rt,Zes rt=Zir (ofQ X (n0I rs))/\Zbg rt=0/\∃ A c,e=.returned (.tuple #[.slice A (n0I rs) c,.int .i64 0])/\MFL w7 A (n0I rs) c (ofQ X (n0I rs))):=by
   rcases hP with ⟨h0,rt,a9,⟨h9,A1,c1,e1,hM⟩|⟨h9,e1⟩⟩|⟨h9,e1⟩;exact .inr ⟨h0,rt,a9,h9,A1,c1,e1,hM⟩;exact .inl ⟨16,e1,.inr rfl⟩;exact .inl ⟨_,e1,.inl (Z1b g1.out hS.out h9)⟩
  clear hP
  have hz:Hid (Zcx rs (Qe k 0) ws=0):=Za (by
   have h1:=hS.out;rw[l6.out,Nat.min_eq_left Gk]at h1;exact h1)
  rcases g6 with ⟨E,rfl,e5⟩|⟨h0,rt,a9,c8,Ac,cc,rfl,hM⟩
  case inl =>
   go_wp2_with fail;refine(Zjp A C k c e0 m rs ws w7 h.out hw.out hz.out hm.out).mono ?_;rintro e w9 ⟨go,rfl,y,-⟩;replace h:=Za (h.out.below y);replace hw:=Za (hw.out.below y);have j0:=Gn d0 y;clear d0 y;rcases e5 with rfl|rfl
   ·skip
    go_wp2_with fail;go_ret;exact⟨rfl,j0.out⟩
   skip
   go_wp2_with fail;go_ret;exact⟨rfl,j0.out⟩
  obtain⟨hP,-⟩:=d5.out h0;rw[hm.out,l6.out]at hP;rw[hm.out]at hM a9 ⊢;have l8:=hM.2.2.1;have p4:=hM.2.1;unfold maxLen at l8;have n3:Hid (∀ i j,i<m->j<m->X i (m+j)=X j (m+i)):=Za (λi j hi hj=>of_symm a9 c8 hi hj);obtain⟨rsc,b4,p3,j4⟩:=hM.mxs;have m5:=Za (h5.out rsc (by rw[hm.out];exact j4));have m0:=Za ((Zr5 (j4.trans a9.symm)).trans c8);obtain⟨s1,s2,s3⟩:=Zwm hP g3 Gk hS.out;have l7:=Za (λ(i j:Nat) (hi:i<m) (hj:j<m)=>of_left hP n3.out hi hj);replace hP:=Za hP;replace s1:=Za s1;replace s2:=Za s2;replace s3:=Za s3;clear p3 j4 a9 c8 h0 d5;replace hM:=Za hM;replace b4:=Za b4;go_wp2_with fail;refine(Zjp A C k c e0 m rs ws w7 h.out hw.out hz.out hm.out).mono ?_;rintro e n8 ⟨go,rfl,y,hN⟩;replace h:=Za (h.out.below y);replace hw:=Za (hw.out.below y);replace hM:=Za (hM.out.below y);replace b4:=Za (b4.out.below y);have e4:=Gn d0 y;clear d0 y;replace hN:=Za hN;go_wp2_with fail;refine(Zkb Ac m cc rsc n8 b4.out m5.out 0 m0.out).mono ?_;rintro e a6 ⟨rfl,y⟩;replace h:=Za (h.out.below y);replace hw:=Za (hw.out.below y);replace hM:=Za (hM.out.below y);replace b4:=Za (b4.out.below y);replace hN:=Za (hN.out.below y);have i7:=Gn e4 y;clear e4 y b4 m5 m0
  obtain⟨gA,oA,m9⟩:∃ g o,Ac=some ⟨g,o,none⟩:=by
   obtain⟨g,o,-,-,-,e,-⟩:=hM.out.at_ g2;exact⟨g,o,e⟩
  subst m9;have l9:Hid (∀ i,i<m->((ofQ X m)[i]?.getD []).length=m):=Za (λi hi=>Zlw hi);have h6:Hid (∀ i,i<m->((Zc7 rs ws k m)[i]?.getD []).length=m):=Za (λi hi=>Zff hi);go_wp2_with fail
  go_loopg [10] m (λf iv wr=>∃ i:Nat,i+f=m/\iv=.int .i64 i/\Hid (Below a6.heap.size a6 wr))
  case atStart=>exact⟨0,by omega,rfl,Za (Qb _ _)⟩
  case round =>
   obtain⟨wi,rfl⟩:=Gy wr;obtain⟨i,r4,rfl,e2⟩:=hrel;cases gk with
   | succ f' =>
    obtain rfl:f'=m-(i+1):=Gk;have m3:i<m:=Gk;have t3:decide ((i:Int)<(m:Int))=true:=Gv Gk;have bi:(i:Int)<(m:Int):=Gk;obtain⟨gr,or_,cr,kr,k8,e6,a8⟩:=(hN.out.below e2.out).ents (λi hi=>h6.out i hi) m3;unfold maxLen at e6;rw[Qh]at kr;clear a8;go_wp2_with fail
    go_loopg [11] m (λf kv wr=>∃ j:Nat,j+f=m/\kv=.int .i64 j/\Hid (Below a6.heap.size a6 wr))
    case atStart=>exact⟨0,by omega,rfl,e2⟩
    case round =>
     clear kr;obtain⟨wj,rfl⟩:=Gy wr;obtain⟨j,r6,rfl,e8⟩:=hrel;clear e2;cases gk with
     | zero =>
      obtain rfl:j=m:=Gk;have t4:decide ((j:Int)<(j:Int))=false:=Gh;go_wp2_with fail
      go_roundg (j-(i+1))
      case measure=>omega
      case rel=>exact⟨i+1,by omega,by go_num,e8⟩
     | succ f2 =>
      obtain rfl:f2=m-(j+1):=Gk;have o9:j<m:=Gk;have t4:decide ((j:Int)<(m:Int))=true:=Gv Gk;have bj:(j:Int)<(m:Int):=Gk;obtain⟨q2,q6,r3,m7,q3,o5,a8⟩:=(hN.out.below e8.out).ents (λi hi=>h6.out i hi) m3;unfold maxLen at o5;rw[Qh]at m7;obtain⟨xn,xA,xk,xc,xm,xB,xj,xd,d6,U⟩:=a8 j o9;obtain⟨x0,x1,x2,x3⟩:=d6;clear a8;go_wp2_with fail;refine(Zg8 xn xm xA xB xk xc xj xd _ wj U).mono ?_;rintro e w3 ⟨rfl,l3⟩;have p1:=Gn e8 l3;clear l3 U x0 x1 x2 x3 m7 e8;go_wp2_with fail
      go_roundg (m-(j+1))
      case measure=>omega
      case rel=>exact⟨j+1,by omega,by go_num,p1⟩
   | zero =>
    obtain rfl:i=m:=Gk;have t3:decide ((i:Int)<(i:Int))=false:=Gh;go_wp2_with fail;obtain⟨wL,rfl⟩:=Gy wi
    go_loopg [12] i (λf iv wr=>∃ a:Nat,a+f=i/\iv=.int .i64 a/\Hid (Below a6.heap.size a6 wr))
    case atStart=>exact⟨0,by omega,rfl,e2⟩
    case round =>
     clear e2;obtain⟨wa,rfl⟩:=Gy wr;obtain⟨a,r5,rfl,b8⟩:=hrel;cases gk with
     | succ f' =>
      obtain rfl:f'=i-(a+1):=Gk;have c7:a<i:=Gk;have t5:decide ((a:Int)<(i:Int))=true:=Gv Gk;have ba:(a:Int)<(i:Int):=Gk;go_wp2_with fail
      go_loopg [13] i (λf kv wr=>∃ b:Nat,b+f=i/\kv=.int .i64 b/\Hid (Below a6.heap.size a6 wr))
      case atStart=>exact⟨0,by omega,rfl,b8⟩
      case round =>
       clear b8;obtain⟨wb,rfl⟩:=Gy wr;obtain⟨b,q0,rfl,e3⟩:=hrel;cases gk with
       | zero =>
        obtain rfl:b=i:=Gk;have t6:decide ((b:Int)<(b:Int))=false:=Gh;go_wp2_with fail
        go_roundg (b-(a+1))
        case measure=>omega
        case rel=>exact⟨a+1,by omega,by go_num,e3⟩
       | succ f2 =>
        obtain rfl:f2=i-(b+1):=Gk;have j8:b<i:=Gk;have t6:decide ((b:Int)<(i:Int))=true:=Gv Gk;have bb:(b:Int)<(i:Int):=Gk;go_wp2_with fail;refine(Zhn 0 1 wb Gj Gj Gj Gj).mono ?_;rintro e v1 ⟨h7,pn,pA,pk,pc,pm,pB,pj,pd,rfl,k5⟩;rw[Zib]at k5;obtain⟨gs,i4⟩:=Gz v1.heap.size;obtain⟨V1,l5,bkd,d9⟩:=Zaw (w:=v1) 41 #[.bool pn,.slice pA pk pc,.bool pm,.slice pB pj pd];rw[i4]at bkd;have i5:VarF V1 gs (Zu 0 (λj=>X a (i+j)*Zbu*Za8 rs ws k j b)):=⟨_,_,_,_,_,_,_,_,bkd,k5.below d9⟩;have j2:=Gs h7 d9;have b7:=Gn e3 j2;have m4:Hid (a6.heap.size<=gs):=Za (by rw[<- i4];exact Nat.le_trans e3.out.size h7.size);replace i5:=Za i5;clear k5 bkd h7 d9 j2 e3;go_wp2_with fail;(try rw[i4]);(try rw[l5]);clear l5 i4
        go_loopg [15] i (λf kv wr=>∃ t:Nat,t+f=i/\kv=.int .i64 t/\Hid (VarF wr gs (Zu t (λj=>X a (i+j)*Zbu*Za8 rs ws k j b)))/\Hid (Kept (λk=>k=gs) V1 wr))
        case atStart=>exact⟨0,by omega,rfl,i5,Za (Kept.refl _ _)⟩
        case round =>
         clear i5;obtain⟨wk,rfl⟩:=Gy wr;obtain⟨t,r2,rfl,g9,i6⟩:=hrel;have b0:Below a6.heap.size a6 wk:=b7.out.trans (i6.out.to_below (λk e=>by rw[e];exact m4.out) b7.out.size);cases gk with
         | succ f3 =>
          obtain rfl:f3=i-(t+1):=Gk;have c5:t<i:=Gk;have t7:decide ((t:Int)<(i:Int))=true:=Gv Gk;have bt:(t:Int)<(i:Int):=Gk;obtain⟨gr,or_,cr,kr,k8,e6,a8⟩:=(hM.out.below b0).ents (λi hi=>l9.out i hi) c7;unfold maxLen at e6;obtain⟨xn,xA,xk,xc,xm,xB,xj,xd,d6,U⟩:=a8 t c5;rw[Zia c7 c5]at U;obtain⟨x0,x1,x2,x3⟩:=d6;obtain⟨gq,oq,cq,kq,o4,k4,e9⟩:=(hN.out.below b0).ents (λi hi=>h6.out i hi) c5;unfold maxLen at k4;rw[Qh]at kq;obtain⟨yn,yA,yk,yc,ym,yB,yj,yd,j3,V⟩:=e9 b j8;rw[Zin c5 j8]at V;obtain⟨y0,y1,y2,y3⟩:=j3;have z1:=Za (s1.out a t c7 c5);have z2:=Za (s2.out t b);have z3:=Za (s3.out a b t c7 (Nat.le_of_lt c5))
          have z4:Hid (Sm (X a (i+t)*Zbu*Za8 rs ws k t b)):=Za (by
           obtain⟨D,d1,d2,d3⟩:=Z08 hP.out g3;have h1:=(d3 a t c7 c5).mul (Zf9 (n:=k) Gk hS.out t b);have e:((D:Nat):Rat)*(X a (i+t)*Zbu)*Za8 rs ws k t b=((D:Nat):Rat)*(X a (i+t)*Zbu*Za8 rs ws k t b):=by grind
           rw[e]at h1;exact Zqk d1 (Nat.le_trans d2 (Zbm Gj)) (by rw[<- Zc8];exact Zbm Gj) h1)
          obtain⟨vx,k2⟩:=Gz (X a (i+t)*Zbu);obtain⟨vy,k0⟩:=Gz (Za8 rs ws k t b);have l1:Hid (Zu t (λj=>X a (i+j)*Zbu*Za8 rs ws k j b)+vx*vy=Zu (t+1) (λj=>X a (i+j)*Zbu*Za8 rs ws k j b)):=Za (by rw[<- k2,<- k0];rfl);rw[k2]at U z1 z4;rw[k0]at V z2 z4;obtain⟨sn,sA,sk,sc,sm,sB,sj,sd,qs,J⟩:=g9.out;obtain⟨i0,i1,i2,i3,-⟩:=qs.four;replace U:=Za U;replace V:=Za V;replace J:=Za J;replace qs:=Za qs;clear a8 e9 k2 k0 g9 b0;have a2:Hid (Below wk.heap.size wk wk):=Za (Qb _ _);go_wp2_with fail;have I:Below wk.heap.size wk wk.drew:=Zf (Qb _ _) 1;replace U:=Za (U.out.below I);replace V:=Za (V.out.below I);replace J:=Za (J.out.below I);replace qs:=Gm I qs;have c3:=Gn a2 I;clear a2;replace kr:=Zb I kr;replace x0:=Zb I x0;replace x1:=Zb I x1;replace x2:=Zb I x2;replace x3:=Zb I x3;replace kq:=Zb I kq;replace y0:=Zb I y0;replace y1:=Zb I y1;replace y2:=Zb I y2;replace y3:=Zb I y3;replace i0:=Zb I i0;replace i1:=Zb I i1;replace i2:=Zb I i2;replace i3:=Zb I i3;clear I
          refine Zx [17] (λwx=>(wx.cell? ⟨gA,oA+a,none⟩=some (.slice (some ⟨gr,or_,none⟩) i cr))/\(wx.cell? ⟨gr,or_+t*4,none⟩=some (.bool xn))/\(wx.cell? ⟨gr,or_+t*4+1,none⟩=some (.slice xA xk xc))/\(wx.cell? ⟨gr,or_+t*4+2,none⟩=some (.bool xm))/\(wx.cell? ⟨gr,or_+t*4+3,none⟩=some (.slice xB xj xd))/\(wx.cell? ⟨go,t,none⟩=some (.slice (some ⟨gq,oq,none⟩) i cq))/\(wx.cell? ⟨gq,oq+b*4,none⟩=some (.bool yn))/\(wx.cell? ⟨gq,oq+b*4+1,none⟩=some (.slice yA yk yc))/\(wx.cell? ⟨gq,oq+b*4+2,none⟩=some (.bool ym))/\(wx.cell? ⟨gq,oq+b*4+3,none⟩=some (.slice yB yj yd))/\(wx.cell? ⟨gs,0,none⟩=some (.bool sn))/\(wx.cell? ⟨gs,1,none⟩=some (.slice sA sk sc))/\(wx.cell? ⟨gs,2,none⟩=some (.bool sm))/\(wx.cell? ⟨gs,3,none⟩=some (.slice sB sj sd))) hmx ⟨kr,x0,x1,x2,x3,kq,y0,y1,y2,y3,i0,i1,i2,i3⟩ (λ_=>?_);refine Zj5 15 [0,1,2,3,4,5,6,7,8,9,10,11,12,13,14] rfl Gi ⟨kr,x0,x1,x2,x3,kq,y0,y1,y2,y3,i0,i1,i2,i3⟩ ?_
          iterate 15 (refine tkA ?_;try simp only[Qa,Zg7,Zgl,Zg1,Gr,Gq,Gp])
          refine tk0 ?_;refine wpAnyL_o 15 λK hK=>?_
          (try rw[Gx Gi]);go_simp;refine(Zs9 xn xA xk xc xm xB xj xd yn yA yk yc ym yB yj yd vx vy wk.drew U.out V.out z1.out z2.out).mono ?_;rintro e k7 ⟨u,un,uA,uk,uc,um,uB,uj,ud,rfl,c9⟩;replace U:=Za (U.out.below u);replace V:=Za (V.out.below u);replace J:=Za (J.out.below u);replace qs:=Gm u qs;have b9:=Gn c3 u;clear c3;replace kr:=Zb u kr;replace x0:=Zb u x0;replace x1:=Zb u x1;replace x2:=Zb u x2;replace x3:=Zb u x3;replace kq:=Zb u kq;replace y0:=Zb u y0;replace y1:=Zb u y1;replace y2:=Zb u y2;replace y3:=Zb u y3;replace i0:=Zb u i0;replace i1:=Zb u i1;replace i2:=Zb u i2;replace i3:=Zb u i3;clear u;replace c9:=Za c9;refine hK.out _ _ (λ_=>⟨kr,x0,x1,x2,x3,kq,y0,y1,y2,y3,i0,i1,i2,i3⟩) ?_;clear hK K
          try simp only[Qa,Zg7,Zgl,Zg1,Gr,Gq,Gp]
          refine wpAnyL_o 16 λK hK=>?_
          (try rw[Gx Gi]);go_simp;refine(Zvs sn sA sk sc sm sB sj sd un uA uk uc um uB uj ud _ _ k7 J.out c9.out z3.out z4.out).mono ?_;rintro e c6 ⟨u,pn,pA,pk,pc,pm,pB,pj,pd,rfl,d8⟩;replace U:=Za (U.out.below u);replace V:=Za (V.out.below u);replace J:=Za (J.out.below u);replace qs:=Gm u qs;replace c9:=Za (c9.out.below u);have j7:=Gn b9 u;clear b9;replace kr:=Zb u kr;replace x0:=Zb u x0;replace x1:=Zb u x1;replace x2:=Zb u x2;replace x3:=Zb u x3;replace kq:=Zb u kq;replace y0:=Zb u y0;replace y1:=Zb u y1;replace y2:=Zb u y2;replace y3:=Zb u y3;replace i0:=Zb u i0;replace i1:=Zb u i1;replace i2:=Zb u i2;replace i3:=Zb u i3;clear u;rw[l1.out]at d8;replace d8:=Za d8;refine hK.out _ _ (λ_=>⟨kr,x0,x1,x2,x3,kq,y0,y1,y2,y3,i0,i1,i2,i3⟩) ?_;clear hK K
          try simp only[Qa,Zg7,Zgl,Zg1,Gr,Gq,Gp]
          obtain⟨z0,n0,o8,p5⟩:c6.frozen? ⟨gs,0,none⟩=false/\c6.frozen? ⟨gs,1,none⟩=false/\c6.frozen? ⟨gs,2,none⟩=false/\c6.frozen? ⟨gs,3,none⟩=false:=⟨qs.out.frozen 0,qs.out.frozen 1,qs.out.frozen 2,qs.out.frozen 3⟩;refine(Zrq pn pA pk pc pm pB pj pd qs.out).elim (λW5 hq=>?_);have hZ:=hq.1;refine Zv (i:=17) rfl Gi Gi (λK hK=>?_);go_simp;(try rw[hZ]);refine hK.out _ _ ?_;clear hK K
          try simp only[Qa,Zg7,Zgl,Zg1,Gr,Gq,Gp]
          refine wpAnyL_fin ?_;have n5:Hid (VarF W5 gs (Zu (t+1) (λj=>X a (i+j)*Zbu*Za8 rs ws k j b))):=Za ⟨_,_,_,_,_,_,_,_,hq.2.1,d8.out.keptV hq.2.2.1 qs.out (Zeq _ _ _ _ _ _ _ _)⟩;have p2:Hid (Kept (λk=>k=gs) V1 W5):=Za ((i6.out.below j7.out).trans hq.2.2.1);clear hq hZ z0 n0 o8 p5 i6 qs J d8 c9 U V kr x0 x1 x2 x3 kq y0 y1 y2 y3 i0 i1 i2 i3 l1 z1 z2 z3 z4;go_wp2_with fail
          go_roundg (i-(t+1))
          case measure=>omega
          case rel=>exact⟨t+1,by omega,by go_num,n5,p2⟩
         | zero =>
          obtain rfl:t=i:=Gk;have t7:decide ((t:Int)<(t:Int))=false:=Gh;have i8:=l7.out a b c7 j8;have i9:=g9.out;rw[i8]at i9;obtain⟨sn,sA,sk,sc,sm,sB,sj,sd,qs,J⟩:=i9;obtain⟨i0,i1,i2,i3,-⟩:=qs.four;replace J:=Za J;replace b0:=Za b0;clear i8 g9 i6 b7 qs;have a2:Hid (Below wk.heap.size wk wk):=Za (Qb _ _);by_cases b1:a=b
          case pos =>
           have t8:((a:Int) == (b:Int))=true:=by rw[b1];exact beq_self_eq_true _
           have n6:decide ((a:Int)=(b:Int))=true:=Gv Gk;have k9:decide (a=b)=true:=Gv b1;rw[Gx b1]at J;replace b1:=Za b1;go_wp2_with fail;have O:Below wk.heap.size wk wk.drew:=Zf (Qb _ _) 1;replace J:=Za (J.out.below O);have Y:=Gn a2 O;clear a2;replace i0:=Zb O i0;replace i1:=Zb O i1;replace i2:=Zb O i2;replace i3:=Zb O i3;clear O;refine Zx [] (λwx=>(wx.cell? ⟨gs,0,none⟩=some (.bool sn))/\(wx.cell? ⟨gs,1,none⟩=some (.slice sA sk sc))/\(wx.cell? ⟨gs,2,none⟩=some (.bool sm))/\(wx.cell? ⟨gs,3,none⟩=some (.slice sB sj sd))) hmx ⟨i0,i1,i2,i3⟩ (λ_=>?_);refine Zj5 2 [0,1] rfl Gi ⟨i0,i1,i2,i3⟩ ?_
           iterate 2 (refine tkA ?_;try simp only[Qa,Zg7,Zgl,Zg1,Gr,Gq,Gp])
           refine tk0 ?_;refine wpAnyL_o 2 λK hK=>?_
           (try rw[Gx Gi]);go_simp;refine(Zhn 1000000000000000000 1 wk.drew Gj Gj Gj Gj).mono ?_;rintro e d7 ⟨u,fn,fA,fk,fc,fm,fB,fj,fd,rfl,a4⟩;replace J:=Za (J.out.below u);have a0:=Gn Y u;clear Y;replace i0:=Zb u i0;replace i1:=Zb u i1;replace i2:=Zb u i2;replace i3:=Zb u i3;clear u;rw[Zib]at a4;replace a4:=Za a4;refine hK.out _ _ (λ_=>⟨i0,i1,i2,i3⟩) ?_;clear hK K
           try simp only[Qa,Zg7,Zgl,Zg1,Gr,Gq,Gp]
           refine wpAnyL_o 3 λK hK=>?_
           (try rw[Gx Gi]);go_simp;refine(Zjn sn sm fn fm sA sB fA fB sk sc sj sd fk fc fj fd _ _ d7 J.out a4.out true (Gv rfl)).mono ?_;rintro e m6 ⟨rfl,u⟩;replace J:=Za (J.out.below u);replace a4:=Za (a4.out.below u);have c4:=Gn a0 u;clear a0;replace i0:=Zb u i0;replace i1:=Zb u i1;replace i2:=Zb u i2;replace i3:=Zb u i3;clear u;refine hK.out _ _ (λ_=>⟨i0,i1,i2,i3⟩) ?_;clear hK K
           try simp only[Qa,Zg7,Zgl,Zg1,Gr,Gq,Gp]
           refine Zj5 1 [4] rfl Gi ⟨i0,i1,i2,i3⟩ ?_
           (refine tkA ?_;try simp only[Qa,Zg7,Zgl,Zg1,Gr,Gq,Gp])
           refine tk0 ?_;refine wpAnyL_fin ?_;clear i0 i1 i2 i3;have f9:=Za (Gs b0.out c4.out);go_wp2_with fail
           go_roundg (t-(b+1))
           case measure=>omega
           case rel=>exact⟨b+1,by omega,by go_num,f9⟩
          case neg =>
           have t8:((a:Int) == (b:Int))=false:=by simp;omega
           have n6:decide ((a:Int)=(b:Int))=false:=Gu Gk;have k9:decide (a=b)=false:=Gu b1;rw[Gw b1]at J;replace b1:=Za b1;go_wp2_with fail;have O:Below wk.heap.size wk wk.drew:=Zf (Qb _ _) 1;replace J:=Za (J.out.below O);have Y:=Gn a2 O;clear a2;replace i0:=Zb O i0;replace i1:=Zb O i1;replace i2:=Zb O i2;replace i3:=Zb O i3;clear O;refine Zx [] (λwx=>(wx.cell? ⟨gs,0,none⟩=some (.bool sn))/\(wx.cell? ⟨gs,1,none⟩=some (.slice sA sk sc))/\(wx.cell? ⟨gs,2,none⟩=some (.bool sm))/\(wx.cell? ⟨gs,3,none⟩=some (.slice sB sj sd))) hmx ⟨i0,i1,i2,i3⟩ (λ_=>?_);refine Zj5 2 [0,1] rfl Gi ⟨i0,i1,i2,i3⟩ ?_
           iterate 2 (refine tkA ?_;try simp only[Qa,Zg7,Zgl,Zg1,Gr,Gq,Gp])
           refine tk0 ?_;refine wpAnyL_o 2 λK hK=>?_
           (try rw[Gx Gi]);go_simp;refine(Zhn 0 1 wk.drew Gj Gj Gj Gj).mono ?_;rintro e d7 ⟨u,fn,fA,fk,fc,fm,fB,fj,fd,rfl,a4⟩;replace J:=Za (J.out.below u);have a0:=Gn Y u;clear Y;replace i0:=Zb u i0;replace i1:=Zb u i1;replace i2:=Zb u i2;replace i3:=Zb u i3;clear u;rw[Zib]at a4;replace a4:=Za a4;refine hK.out _ _ (λ_=>⟨i0,i1,i2,i3⟩) ?_;clear hK K
           try simp only[Qa,Zg7,Zgl,Zg1,Gr,Gq,Gp]
           refine wpAnyL_o 3 λK hK=>?_
           (try rw[Gx Gi]);go_simp;refine(Zjn sn sm fn fm sA sB fA fB sk sc sj sd fk fc fj fd _ _ d7 J.out a4.out true (Gv rfl)).mono ?_;rintro e m6 ⟨rfl,u⟩;replace J:=Za (J.out.below u);replace a4:=Za (a4.out.below u);have c4:=Gn a0 u;clear a0;replace i0:=Zb u i0;replace i1:=Zb u i1;replace i2:=Zb u i2;replace i3:=Zb u i3;clear u;refine hK.out _ _ (λ_=>⟨i0,i1,i2,i3⟩) ?_;clear hK K
           try simp only[Qa,Zg7,Zgl,Zg1,Gr,Gq,Gp]
           refine Zj5 1 [4] rfl Gi ⟨i0,i1,i2,i3⟩ ?_
           (refine tkA ?_;try simp only[Qa,Zg7,Zgl,Zg1,Gr,Gq,Gp])
           refine tk0 ?_;refine wpAnyL_fin ?_;clear i0 i1 i2 i3;have f9:=Za (Gs b0.out c4.out);go_wp2_with fail
           go_roundg (t-(b+1))
           case measure=>omega
           case rel=>exact⟨b+1,by omega,by go_num,f9⟩
     | zero =>
      obtain rfl:a=i:=Gk;have t5:decide ((a:Int)<(a:Int))=false:=Gh;obtain⟨q,hq⟩:∃ q,k=q+1:=⟨k-1,by omega⟩;have q4:IntKind.i64.wrap ((k:Int)-1)=(q:Int):=by rw[IntKind.wrap_i64];omega
      have m1:0<q:=Gk;have j5:=Za (Gs i7.out b8.out);replace h:=Za (h.out.below b8.out);replace hw:=Za (hw.out.below b8.out);replace hM:=Za (hM.out.below b8.out);obtain⟨gR,oR,r0,o7,-,-,-⟩:=h.out.at_ (i:=0) Gk;subst o7;obtain⟨gC,oC,n2,-⟩:=hw.out.2.2.2.2 Gk;subst n2;have b3:=Za (h.out.takeP (p:=q) (c':=c) Gk Gk (by unfold maxLen;omega));have c2:=Za (hw.out.takeP (p:=q) (c':=e0) Gk Gk (by unfold maxLen;omega));have m2:=hG.out.takeP (p:=q) Gk g4;obtain⟨X0,g8,-,h4⟩:=Zup (ws:=ws.take q) b3.out m2;have k3:Hid (n0I (rs.take q)=a):=Za ((Zsz m1).trans hm.out);have l0:Hid ((rs.take q).length=q):=Za b3.out.1
      have o3:Hid (ofE (rs.take q) (ws.take q)≠0->ofE (rs.take q) (ws.take q)=22):=Za (λh9=>by
       obtain⟨f1,f2,f3,f4,f5,f6,f7,f8⟩:=Zdr hS.out;refine Z1b ?_ ?_ h9
       ·rw[Qi]
        intro r hr;have h1:=List.any_eq_false.1 g1.out r (Qf hr);exact h1
       exact Z0j hS.out l0.out c2.out.1 m1)
      replace g8:=Za g8;replace h4:=Za h4;have p8:(q:Int)<=(c:Int):=Gk;have q7:(q:Int)<=(e0:Int):=Gk;have r1:(0:Int)<=(q:Int):=Gk;have q9:q<=c:=Gk;have q8:q<=e0:=Gk;clear b8 hN h6 m2 l7;replace hq:=Za hq;go_wp2_with fail;have a1:Below wa.heap.size wa wa.drew:=Zf (Qb _ _) 1;replace h:=Za (h.out.below a1);replace hw:=Za (hw.out.below a1);replace hM:=Za (hM.out.below a1);replace b3:=Za (b3.out.below a1);replace c2:=Za (c2.out.below a1);have c0:=Gn j5 a1;clear j5 a1;refine Zx [] (λwx=>True) hmx trivial (λ_=>?_);refine Zj5 6 [0,1,2,3,4,5] rfl Gi trivial ?_
      iterate 6 (refine tkA ?_;try simp only[Qa,Zg7,Zgl,Zg1,Gr,Gq,Gp])
      refine tk0 ?_;refine wpAnyL_o 6 λK hK=>?_;go_simp;refine(Zps (some ⟨gR,oR,none⟩) (some ⟨gC,oC,none⟩) q c q e0 (rs.take q) (ws.take q) X0 wa.drew b3.out c2.out g8.out h4.out).mono ?_;rintro e l2 hP;have b6:=hP.1;obtain⟨fA,fn,fc,fE,rfl⟩:=hP.shapeT;have g6:=Za (hP.casesT o3.out);clear hP;replace h:=Za (h.out.below b6);replace hw:=Za (hw.out.below b6);replace hM:=Za (hM.out.below b6);replace b3:=Za (b3.out.below b6);replace c2:=Za (c2.out.below b6);have a5:=Gn c0 b6;clear c0 b6;refine hK.out _ _ (λ_=>trivial) ?_;clear hK K
      try simp only[Qa,Zg7,Zgl,Zg1,Gr,Gq,Gp]
      refine Zj5 3 [7,8,9] rfl Gi trivial ?_
      iterate 3 (refine tkA ?_;try simp only[Qa,Zg7,Zgl,Zg1,Gr,Gq,Gp])
      refine tk0 ?_;refine Zgm 2 [10,11] rfl Gi trivial ?_
      iterate 2 (refine tkA ?_;try simp only[Qa,Zg7,Zgl,Zg1,Gr,Gq,Gp])
      refine tk0 ?_;refine wpAnyL_fin ?_;rcases g6.out with ⟨rfl,rfl,rfl,e5⟩|⟨rfl,rfl,h0,⟨rt,a9,c8⟩,a7⟩
      case inl =>
       clear g6;rcases e5 with rfl|rfl
       ·skip
        go_wp2_with fail;go_ret;exact⟨rfl,a5.out⟩
       skip
       go_wp2_with fail;go_ret;exact⟨rfl,a5.out⟩
      clear g6;obtain⟨h8,-⟩:=g8.out h0;rw[k3.out,l0.out]at h8;obtain⟨-,b2,-⟩:=Zsm h0;rw[k3.out]at a7 a9 ⊢;have k1:=a7.2.2.1;have p0:=a7.2.1;unfold maxLen at k1;obtain⟨rsf,d4,o0,J⟩:=a7.mxs;have n7:=Za (h4.out rsf (by rw[k3.out];exact J));have n4:=Za ((Zr5 (J.trans a9.symm)).trans c8);have o1:=Za (Zwm h8 g3 (by have:=hq.out;omega) b2).1;have k6:Hid (∀ d,d<a->X d (a+d)*Zbu<=X0 d (a+d)*Zbu):=Za (λd hd=>Z1l hS.out h8 (hq.out▸hP.out) hd)
      obtain⟨gF,oF,n1⟩:∃ g o,fA=some ⟨g,o,none⟩:=by
       obtain⟨g,o,-,-,-,e,-⟩:=a7.at_ g2;exact⟨g,o,e⟩
      subst n1;have o2:Hid (∀ i,i<a->((ofQ X0 a)[i]?.getD []).length=a):=Za (λi hi=>Zlw hi);clear o0 J a9 c8 h8 b2 h0;replace a7:=Za a7;replace d4:=Za d4;clear b3 c2 h hw;go_wp2_with fail;refine(Zkb (some ⟨gF,oF,none⟩) a fc rsf l2 d4.out n7.out 0 n4.out).mono ?_;rintro e j1 ⟨rfl,y⟩;replace hM:=Za (hM.out.below y);replace a7:=Za (a7.out.below y);replace d4:=Za (d4.out.below y);have g0:=Gn a5 y;clear a5 y d4;go_wp2_with fail
      go_loopg [20] a (λf iv wr=>∃ d:Nat,d+f=a/\iv=.int .i64 d/\Hid (Below j1.heap.size j1 wr))
      case atStart=>exact⟨0,by omega,rfl,Za (Qb _ _)⟩
      case round =>
       obtain⟨wd,rfl⟩:=Gy wr;obtain⟨d,q1,rfl,f0⟩:=hrel;cases gk with
       | zero =>
        obtain rfl:d=a:=Gk;have t9:decide ((d:Int)<(d:Int))=false:=Gh;go_wp2_with fail;go_ret;exact⟨rfl,Gs g0.out f0.out⟩
       | succ f' =>
        obtain rfl:f'=a-(d+1):=Gk;have a3:d<a:=Gk;have t9:decide ((d:Int)<(a:Int))=true:=Gv Gk;have bd:(d:Int)<(a:Int):=Gk;obtain⟨gr,or_,cr,kr,k8,e6,a8⟩:=(hM.out.below f0.out).ents (λi hi=>l9.out i hi) a3;unfold maxLen at e6;obtain⟨xn,xA,xk,xc,xm,xB,xj,xd,d6,U⟩:=a8 d a3;rw[Zia a3 a3]at U;obtain⟨x0,x1,x2,x3⟩:=d6;obtain⟨gq,oq,cq,kq,o4,k4,e9⟩:=(a7.out.below f0.out).ents (λi hi=>o2.out i hi) a3;unfold maxLen at k4;obtain⟨yn,yA,yk,yc,ym,yB,yj,yd,j3,V⟩:=e9 d a3;rw[Zia a3 a3]at V;obtain⟨y0,y1,y2,y3⟩:=j3;have z1:=Za (s1.out d d a3 a3);have z2:=Za (o1.out d d a3 a3);have z3:Hid (decide (X d (a+d)*Zbu<=X0 d (a+d)*Zbu)=true):=Za (Gv (k6.out d a3));replace U:=Za U;replace V:=Za V;clear a8 e9;have a2:Hid (Below wd.heap.size wd wd):=Za (Qb _ _);go_wp2_with fail;have T:Below wd.heap.size wd wd.drew:=Zf (Qb _ _) 1;replace U:=Za (U.out.below T);replace V:=Za (V.out.below T);have b5:=Gn a2 T;clear a2;replace kr:=Zb T kr;replace x0:=Zb T x0;replace x1:=Zb T x1;replace x2:=Zb T x2;replace x3:=Zb T x3;replace kq:=Zb T kq;replace y0:=Zb T y0;replace y1:=Zb T y1;replace y2:=Zb T y2;replace y3:=Zb T y3;clear T
        refine Zx [] (λwx=>(wx.cell? ⟨gA,oA+d,none⟩=some (.slice (some ⟨gr,or_,none⟩) a cr))/\(wx.cell? ⟨gr,or_+d*4,none⟩=some (.bool xn))/\(wx.cell? ⟨gr,or_+d*4+1,none⟩=some (.slice xA xk xc))/\(wx.cell? ⟨gr,or_+d*4+2,none⟩=some (.bool xm))/\(wx.cell? ⟨gr,or_+d*4+3,none⟩=some (.slice xB xj xd))/\(wx.cell? ⟨gF,oF+d,none⟩=some (.slice (some ⟨gq,oq,none⟩) a cq))/\(wx.cell? ⟨gq,oq+d*4,none⟩=some (.bool yn))/\(wx.cell? ⟨gq,oq+d*4+1,none⟩=some (.slice yA yk yc))/\(wx.cell? ⟨gq,oq+d*4+2,none⟩=some (.bool ym))/\(wx.cell? ⟨gq,oq+d*4+3,none⟩=some (.slice yB yj yd))) hmx ⟨kr,x0,x1,x2,x3,kq,y0,y1,y2,y3⟩ (λ_=>?_);refine Zj5 14 [0,1,2,3,4,5,6,7,8,9,10,11,12,13] rfl Gi ⟨kr,x0,x1,x2,x3,kq,y0,y1,y2,y3⟩ ?_
        iterate 14 (refine tkA ?_;try simp only[Qa,Zg7,Zgl,Zg1,Gr,Gq,Gp])
        refine tk0 ?_;refine wpAnyL_o 14 λK hK=>?_
        (try rw[Gx Gi]);go_simp;refine(Ztr xn xA xk xc xm xB xj xd yn yA yk yc ym yB yj yd _ _ wd.drew U.out V.out z1.out z2.out).mono ?_;rintro e p7 ⟨rfl,u⟩;replace U:=Za (U.out.below u);replace V:=Za (V.out.below u);have j6:=Gn b5 u;clear b5;replace kr:=Zb u kr;replace x0:=Zb u x0;replace x1:=Zb u x1;replace x2:=Zb u x2;replace x3:=Zb u x3;replace kq:=Zb u kq;replace y0:=Zb u y0;replace y1:=Zb u y1;replace y2:=Zb u y2;replace y3:=Zb u y3;clear u;rw[z3.out];refine hK.out _ _ (λ_=>⟨kr,x0,x1,x2,x3,kq,y0,y1,y2,y3⟩) ?_;clear hK K
        try simp only[Qa,Zg7,Zgl,Zg1,Gr,Gq,Gp]
        refine Zj5 1 [15] rfl Gi ⟨kr,x0,x1,x2,x3,kq,y0,y1,y2,y3⟩ ?_
        (refine tkA ?_;try simp only[Qa,Zg7,Zgl,Zg1,Gr,Gq,Gp])
        refine tk0 ?_;refine wpAnyL_fin ?_;clear kr x0 x1 x2 x3 kq y0 y1 y2 y3;have f9:=Za (Gs f0.out j6.out);go_wp2_with fail
        go_roundg (a-(d+1))
        case measure=>omega
        case rel=>exact⟨d+1,by omega,by go_num,f9⟩
open Go.ChangeShapes Go.WideShapes Go.Deep Go.RowKit
theorem Z03{z:Int}(h:(Lit.int .i64 z).wf=true):I64 z:=by
 simp only[Lit.wf,Bool.and_eq_true,decide_eq_true_eq]at h;exact h
section
variable{H:Type}{enc:TypeId × Value->H}{w:World}{base:Nat}{spare:Nat->Bool}{held:Bool}
theorem Cr{G:Prop}(h:G:=by
 obtain⟨b,o,s⟩:=a;refine⟨b,o,?_⟩;unfold Addr.add at hp
 split at hp <;> simp_all):G:=h
theorem Zlj{t e:TypeId}{fuel:Nat}{cs:List Value}{x:DataW H × List MemPlace}(ht:Tryz.prog.underlying t=some (.slice e))(he:Tryz.prog.underlying e=some (.int .i64))(hc:Tryz.prog.cellsOf e=1)(h:DataW.trod enc Tryz.prog w base spare held fuel t cs=some x):∃ (A:Option Addr) (n c:Nat) (l:List Int),cs=[.slice A n c]/\LimI w A n c l:=by
 rcases open_ints ht he hc h with ⟨rfl,_⟩|⟨a,len,cap,zs,rfl,_,hl,hm,hz,_,f,u⟩;exact⟨none,0,0,[],rfl,rfl,Qd _,Qd _,by simp,λh=>absurd h Gk⟩;have y:len<=zs.length:=by rw[hz];split <;> omega
 refine⟨some a,len,cap,zs.take len,rfl,by simp;omega,hl,hm,λv hv=>Z03 (u v (Qf hv)),λhn=>?_⟩;have h0:=f 0 Gk;have hp:=Znb h0
 obtain⟨b,o,s⟩:∃ b o,a=⟨b,o,none⟩:=by
  exact Cr
 subst s;refine⟨b,o,rfl,λk hk=>?_⟩;have hc:=f k Gk;rw[Zg]at hc;rw[hc];have C:k<zs.length:=Gk;rw[List.getElem?_take,Gx hk,List.getD_eq_getElem?_getD]
theorem Zu1{r:Reach}{b0:Nat}{v:Value}{d:DataW H}{p:List MemPlace}(hv:Value.okWide Tryz.prog w r b0 23 v)(h:DataW.Trod enc Tryz.prog w base spare held 23 v d p):∃ (A:Option Addr) (n c:Nat) (l:List Int),v=.slice A n c/\LimI w A n c l:=by
 obtain⟨A,n,c,rfl⟩:=okWide_slice Tryz.underlying23 hv;obtain⟨fuel,hf⟩:=h;obtain⟨A',n',c',l,e,hL⟩:=Zlj Tryz.underlying23 Tryz.underlying2 Gi hf;simp[Value.cells]at e;obtain⟨rfl,rfl,rfl⟩:=e;exact⟨A,n,c,l,rfl,hL⟩
theorem Zuc{fuel:Nat}{cs:List Value}{x:DataW H × List MemPlace}(h:DataW.trod enc Tryz.prog w base spare held fuel 22 cs=some x):∃ (A:Option Addr) (n c:Nat) (rs:List RI),cs=[.slice A n c]/\MIL w A n c rs:=by
 have c1:Tryz.prog.cellsOf 23=1:=Gi;rcases open_slice Tryz.underlying22 h with ⟨y,_⟩|⟨a,n,c,m,f,D,Pl,y,_,hl,hm,C,_,hi⟩;exact⟨none,0,0,[],y,rfl,Nat.le_refl _,Qd _,λe he=>(by cases he),λh=>absurd h Gk⟩;have T:n<=m:=by rw[C];split <;> omega
 rw[c1]at hi
 obtain⟨rs,J,u⟩:=Zqj (λi (r:RI)=>w.cell? (a.add i)=some (.slice r.A r.n r.c)/\LimI w r.A r.n r.c r.l) n (λi hin=>by
  obtain⟨O,hc,ht⟩:=hi i Gk;obtain⟨A,n1,c1,l,rfl,h1⟩:=Zlj Tryz.underlying23 Tryz.underlying2 Gi ht;obtain⟨_,_,I⟩:=World.cells?_some hc;have g0:=I 0 Gh;rw[Go.Deep.add_add]at g0;exact⟨⟨A,n1,c1,l⟩,by simpa using g0,h1⟩)
 refine⟨some a,n,c,rs,y,J,hl,hm,λr hr=>?_,λhn=>?_⟩
 ·obtain⟨k,hk,rfl⟩:=Qg hr
  exact(u k _ (Qc hk)).2
 obtain⟨b,o,rfl⟩:∃ b o,a=⟨b,o,none⟩:=by
   have h0:=u 0 _ (Qc Gk);have hp:=Znb h0.1;exact Cr
 refine⟨b,o,rfl,λk r hk=>?_⟩;have h0:=u k r hk;rw[Zg]at h0;exact h0.1
theorem Zs5{r:Reach}{b0:Nat}{v:Value}{d:DataW H}{p:List MemPlace}(hv:Value.okWide Tryz.prog w r b0 22 v)(h:DataW.Trod enc Tryz.prog w base spare held 22 v d p) :
    ∃ (A:Option Addr) (n c:Nat) (rs:List RI),v=.slice A n c/\MIL w A n c rs:=by
 obtain⟨A,n,c,rfl⟩:=okWide_slice Tryz.underlying22 hv;obtain⟨fuel,hf⟩:=h;obtain⟨A',n',c',rs,e,hM⟩:=Zuc hf;simp[Value.cells]at e;obtain⟨rfl,rfl,rfl⟩:=e;exact⟨_,_,_,rs,rfl,hM⟩
end
