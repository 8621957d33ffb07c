/- Package covar: the distance of a vector, out of the -/
import Derived.Deep.LoopGhost
import Derived.Test.YtaioanjcjijckaaGreatZb27
set_option maxRecDepth 100000
set_option maxHeartbeats 8000000
set_option linter.unusedSimpArgs false
set_option linter.unusedVariables false
namespace Go.Proofs.YtaioanjcjijckaaGreat
open Go.RowKit
attribute [local go_sem] Zf
structure Zlv (A:Nat->Nat->Rat) (n:Nat) (x:Nat->Rat):Prop where
 a:∀ t i,t <= i->i < n->Sm (Zl (brd A x n) t i n)
 l:∀ i t,t < i->i < n->Sm (lQ A i t)
 ly:∀ i t,t < i->i < n->Sm (lQ A i t * Zl (brd A x n) t t n)
 zz:∀ i,i < n->Sm (zV A n x i * zV A n x i)
 d:∀ i,i < n->Sm (dQ A i)
 q:∀ i,i < n->Sm (zV A n x i * zV A n x i / dQ A i)
 s:∀ i,i <= n->Sm (Z4 i (fun s=>zV A n x s * zV A n x s / dQ A s))
def zL (A:Nat->Nat->Rat) (n:Nat) (x:Nat->Rat) (i:Nat):List Rat:=(List.range i).map (zV A n x)
section
variable {A:Nat->Nat->Rat} {n i k:Nat} {x:Nat->Rat}
theorem Zpe:(zL A n x i).length=i:=by simp [zL]
theorem zL_at (h:k < i):(zL A n x i)[k]?.getD 0=zV A n x k:=by simp [zL,h]
theorem zL_succ:zL A n x (i+1)=zL A n x i ++ [zV A n x i]:=by simp [zL,List.range_succ]
theorem Zln (hki:k < i) (hi:i < n):Zl (brd A x n) (k+1) i n=Zl (brd A x n) k i n - lQ A i k * zV A n x k:=by
 rw [Zl2 hki,brd_l x hi (by omega)];rfl
end
theorem sumF2 (s q:Rat):sumF [s,q] 2=s+q:=by
 show (0+s)+q=_
 grind
theorem Zde {a b:Rat} (h:Sm a):∀ j,j < 1->Sm (Zgy a [b] j):=fun j hj=>by
 obtain rfl:j=0:=by omega
 exact h
theorem Zd1 {b:Rat} (h:Sm b):∀ j:Nat,j < 1->Sm ([b][j]?.getD 0):=fun j hj=>by
 obtain rfl:j=0:=by omega
 exact h
theorem Zmu {a b:Rat} (h:Sm a):∀ j,j < 2->Sm (sumF [a,b] j):=fun j hj=>by
 rcases (show j=0 \/ j=1 by omega) with rfl | rfl
 ·exact (SmN.int (i:=2) (n:=0) (by decide +kernel)).sm (by decide) (by decide)
 ·have e:sumF [a,b] 1=a:=by
    show 0+a=a
    grind
  rw [e];exact h
theorem Zo9 {a b:Rat} (h:Sm a) (k:Sm b):∀ j:Nat,j < 2->Sm ([a,b][j]?.getD 0):=fun j hj=>by
 rcases (show j=0 \/ j=1 by omega) with rfl | rfl
 ·exact h
 ·exact k
theorem Zfn (a b:Rat):Zgy a [b] 1=a * b:=rfl
theorem Ztf (A1 A2 V:Option Addr) (n c1 c2 cv:Nat) (AQ:Nat->Nat->Rat) (xs:List Rat) (w:World) (hn6:n <= 6) (hM:MFL w A1 n c1 (Zfs AQ n)) (hD:FL w A2 n c2 (dsL AQ n)) (hV:FL w V n cv xs) (hp:posP AQ n) (hS:Zlv AQ n (fun i=>xs[i]?.getD 0)) :
    Calls Tryz.prog 56 #[.agg #[.slice A1 n c1,.slice A2 n c2],.slice V n cv] w (Zdi w (bil AQ n (fun i=>xs[i]?.getD 0) (fun i=>xs[i]?.getD 0))):=by
 obtain ⟨iN,hi,hz0,hz1,hz2⟩:=info_parts Zl8
 have hmx:Tryz.prog.follows .mixedOrders=true:=by kernel_rfl
 have hcapV:=hV.cap;have hcap1:=hM.2.1;have hcap1':=hM.2.2.1;have hcap2:=hD.cap;unfold maxLen at hcapV hcap1' hcap2;obtain ⟨X,hXx⟩:∃ X:Nat->Rat,(fun i:Nat=>xs[i]?.getD 0)=X:=⟨_,rfl⟩;have hxs:Hid (∀ i:Nat,xs[i]?.getD 0=X i):=Za (fun i=>by rw [<- hXx]);rw [hXx] at hS ⊢;replace hS:=Za hS;replace hp:=Za hp;clear hXx;obtain ⟨W0,hW0,hB0,⟨qf,qr⟩,s0⟩:=Zc7 w 94 #[.slice A1 n c1,.slice A2 n c2] 99 #[.bool false,.slice none 0 0,.bool false,.slice none 0 0];obtain ⟨gf,hgf⟩:∃ g,w.heap.size=g:=⟨_,rfl⟩;replace hM:=Za (hM.below hB0);replace hD:=Za (hD.below hB0);replace hV:=Za (hV.below hB0);rw [hgf] at qf qr s0;replace hB0:=Za hB0;replace qf:=Za qf;replace qr:=Za qr;have s0':=Za s0;clear s0;go_enter Tryz.func56,Tryz.ntmps56;go_wp2_with fail;(try rw [hW0]);(try rw [hgf]);clear hW0;replace hgf:=Za hgf;refine (Zt7 0 W0 (by decide) (by decide)).mono ?_;rintro e w1 ⟨hbs,sn,sA,sk,sc,sm,sB,sj,sd,rfl,sf⟩;replace hM:=Za (hM.out.below hbs);replace hD:=Za (hD.out.below hbs);replace hV:=Za (hV.out.below hbs);replace qf:=Za (Zc hbs qf.out);replace qr:=Za (Zc hbs qr.out);have hB2:=Za (hB0.out.trans (hbs.mono hB0.out.size));clear hB0;clear hbs;replace sf:=Za sf;have hM1:=hM;have hD1:=hD;have hV1:=hV;have hBw1:=hB2;have qf1:=qf;have qr1:=qr;clear hM hD hV;obtain ⟨g3,hg4⟩:∃ g,w1.heap.size=g:=⟨_,rfl⟩;obtain ⟨V5,hV6,q7,hb8⟩:=Zae (w:=w1) 99 #[.bool sn,.slice sA sk sc,.bool sm,.slice sB sj sd];rw [hg4] at q7;have hbG:=Za hb8;replace qf:=Za (Zc hb8 qf.out);replace qr:=Za (Zc hb8 qr.out)
 replace sf:=Za (sf.out.below hb8);have hB9:=Za (hB2.out.trans (hb8.mono hB2.out.size));clear hB2;clear hb8;replace q7:=Za q7;have hszV0:Hid (w1.heap.size+1=V5.heap.size):=Za (by rw [<- hV6];simp);go_wp2_with fail;(try rw [hg4]);(try rw [hV6]);clear hV6;replace hg4:=Za hg4;have hs0:Hid (Z4 0 (fun s=>zV AQ n X s * zV AQ n X s / dQ AQ s)=((0:Int):Rat)):=Za rfl;replace sf:Hid (Fr V5 sn sA sk sc sm sB sj sd (Z4 0 (fun s=>zV AQ n X s * zV AQ n X s / dQ AQ s))):=Za (by rw [hs0.out];exact sf.out)
 have hszV:Hid (V5.heap.size=g3+1/\gf+1 < g3):=Za ⟨by
  have h2:=hg4.out;have h3:=hszV0.out
  omega,by
  have h2:=hg4.out;have h5:=qr1.out.lt
  omega⟩
 clear hs0 qf qr
 go_loopg [6,7,8,9,10,11,15] n (fun t yv v7 v8 v9 v10 v11 iv wr=>∃ (i:Nat) (sn:Bool) (sA:Option Addr) (sk sc:Nat) (sm:Bool) (sB:Option Addr) (sj sd:Nat),i+t=n/\iv=.int .i64 i/\Hid (OwnF 99 wr V5.heap.size yv (zL AQ n X i))/\Hid (Blk wr g3 99 #[.bool sn,.slice sA sk sc,.bool sm,.slice sB sj sd])/\Hid (Fr wr sn sA sk sc sm sB sj sd (Z4 i (fun s=>zV AQ n X s * zV AQ n X s / dQ AQ s)))/\Hid (Kept (fun k=>k=g3) V5 wr))
 case atStart=>exact ⟨0,_,_,_,_,_,_,_,_,by omega,rfl,Za (OwnF.nil _ _ _),q7,sf,Za (Kept.refl _ _)⟩
 case round =>
  obtain ⟨wi,rfl⟩:∃ x:World,x=wr:=⟨_,rfl⟩;clear q7 sf;obtain ⟨i,sn,sA,sk,sc,sm,sB,sj,sd,hit,rfl,hO,qs,hs,hK⟩:=hrel;have hBr:Hid (Below w1.heap.size w1 wi):=Za (hbG.out.trans (hK.out.to_below (fun k e=>by rw [e];exact Nat.le_of_eq hg4.out) hbG.out.size));have sBr:=hBr.out.size;obtain ⟨sz1,sz2⟩:=hszV.out;have sKi:=hK.out.size;have sw1:w1.heap.size=g3:=hg4.out;obtain ⟨Ay,cy,ey,hFy⟩:=hO.out.fl;rw [Zpe] at ey hFy;subst ey;have hcy:=hFy.cap;unfold maxLen at hcy;replace hFy:=Za hFy;replace sw1:=Za sw1
  cases gk with
  | zero =>
   obtain rfl:i=n:=by omega
   have t1:decide ((i:Int) < (i:Int))=false:=by simp
   have qR:=Zc hBr.out qr1.out;obtain ⟨c0,c1,c2,c3,z0,z1,z2,z3⟩:=qR.four;obtain ⟨x0,x1,x2,x3,-⟩:=qs.out.four;obtain ⟨W5,hW5,q5,hK5,s5⟩:=Zao sn sA sk sc sm sB sj sd qR;go_wp2_with fail;(try rw [hW5]);obtain ⟨r0,r1,r2,r3,-⟩:=q5.four;refine bodyPost_ret (v:=.agg #[.bool sn,.slice sA sk sc,.bool sm,.slice sB sj sd]) (by simp [results,Tryz.results56,go_sem,r0,r1,r2,r3]) rfl ?_;refine ⟨?_,_,_,_,_,_,_,_,_,rfl,hs.out.keptN hK5 qR (Zay _ _ _ _ _ _ _ _)⟩;exact (hBw1.out.trans (hBr.out.mono hBw1.out.size)).trans (hK5.to_below (fun k e=>by have:=hgf.out;omega) (by have:=hBw1.out.size;omega))
  | succ t' =>
   obtain rfl:t'=n - (i+1):=by omega
   have hin:i < n:=by omega
   have t1:decide ((i:Int) < (n:Int))=true:=decide_eq_true (by omega)
   have bi:(i:Int) < (n:Int):=by omega
   obtain ⟨gv,ov,fn,fA,fk,fc,fm,fB,fj,fd,rfl,⟨f0,f1,f2,f3⟩,hf⟩:=(hV1.out.below hBr.out).at_ hin;rw [hxs.out] at hf;obtain ⟨V8,hV8,q8,hb8⟩:=Zae (w:=wi) 29 #[.bool fn,.slice fA fk fc,.bool fm,.slice fB fj fd];obtain ⟨V9,hV9,q9,hb9⟩:=Zae (w:=V8) 99 #[.bool fn,.slice fA fk fc,.bool fm,.slice fB fj fd];obtain ⟨g8,hg8⟩:∃ g,wi.heap.size=g:=⟨_,rfl⟩
   have e89:V8.heap.size=g8+1:=by rw [<- hV8,<- hg8];simp
   have e99:V9.heap.size=g8+1+1:=by rw [<- hV9,<- e89];simp
   rw [e89] at q9;have hb89:Below wi.heap.size wi V9:=hb8.trans (hb9.mono hb8.size)
   have hA0:Hid (Fr V9 fn fA fk fc fm fB fj fd (Zl (brd AQ X n) 0 i n)):=Za (by
    have e:Zl (brd AQ X n) 0 i n=X i:=by
     show brd AQ X n i n=X i;unfold brd;rw [if_pos hin,if_neg (Nat.lt_irrefl _)]
    rw [e];exact hf.below hb89)
   replace hb89:=Za hb89;replace q9:=Za q9;replace hg8:=Za hg8;replace hV8:=Za hV8;replace hV9:=Za hV9;replace e99:=Za e99;clear q8 hb8 hb9 e89 hf;go_wp2_with fail;rw [hV8.out,hg8.out,hV9.out];clear hV8 hV9 f0 f1 f2 f3
   go_loopg [10,11,24] i (fun t v10 v11 kv wk=>∃ (k:Nat) (an:Bool) (aA:Option Addr) (ak ac:Nat) (am:Bool) (aB:Option Addr) (aj ad:Nat),k+t=i/\kv=.int .i64 k/\Hid (Blk wk (g8+1) 99 #[.bool an,.slice aA ak ac,.bool am,.slice aB aj ad])/\Hid (Fr wk an aA ak ac am aB aj ad (Zl (brd AQ X n) k i n))/\Hid (Kept (fun k=>k=g8+1) V9 wk))
   case atStart=>exact ⟨0,_,_,_,_,_,_,_,_,by omega,rfl,q9,hA0,Za (Kept.refl _ _)⟩
   case round =>
    clear q9 hA0;obtain ⟨wk,rfl⟩:∃ x:World,x=wr:=⟨_,rfl⟩;obtain ⟨k,an,aA,ak,ac,am,aB,aj,ad,hkt,rfl,qa,hA,hK9⟩:=hrel;have hg8':=hg8.out;have e99':=e99.out;have hBk:Hid (Below wi.heap.size wi wk):=Za (hb89.out.trans (hK9.out.to_below (fun k e=>by omega) (by omega)));have hBwk:Hid (Below w1.heap.size w1 wk):=Za (hBr.out.trans (hBk.out.mono hBr.out.size));have sBk:=hBk.out.size
    cases gk with
    | succ t' =>
     obtain rfl:t'=i - (k+1):=by omega
     have hki:k < i:=by omega
     have t2:decide ((k:Int) < (i:Int))=true:=decide_eq_true (by omega)
     have bk:(k:Int) < (i:Int):=by omega
     obtain ⟨gy,oy,bn,bA,bk',bc,bm,bB,bj,bd,rfl,⟨b0,b1,b2,b3⟩,hb⟩:=(hFy.out.below hBk.out).at_ hki;rw [zL_at hki] at hb;obtain ⟨gm,om,Ar,nr,cr,eA1,m0,hR⟩:=(hM1.out.below hBwk.out).at_ hin;subst eA1;rw [Zjz hin] at hR
     obtain rfl:i=nr:=by rw [<- hR.len,Zex]
     have hcr:=hR.cap;unfold maxLen at hcr;obtain ⟨gr,or_,ln,lA,lk,lc,lm,lB,lj,ld,rfl,⟨l0,l1,l2,l3⟩,hl⟩:=hR.at_ hki;rw [Zi5 hki] at hl;clear hR;have hb1:=Za hb;have hl1:=Za hl;have qs2:=Za (Zc hBwk.out qf1.out);clear hb hl;obtain ⟨g501,hg502⟩:∃ g,wk.heap.size=g:=⟨_,rfl⟩;obtain ⟨V503,hV504,q505,hb506⟩:=Zae (w:=wk) 99 #[.bool bn,.slice bA bk' bc,.bool bm,.slice bB bj bd];rw [hg502] at q505;replace qa:=Za (Zc hb506 qa.out);replace hA:=Za (hA.out.below hb506);replace hK9:=Za (hK9.out.below hb506);replace hb1:=Za (hb1.out.below hb506);replace hl1:=Za (hl1.out.below hb506);replace qs2:=Za (Zc hb506 qs2.out);have hB507:=Za (hBk.out.trans (hb506.mono hBk.out.size));clear hBk;clear hb506;replace q505:=Za q505;go_wp2_with fail;(try rw [hg502]);(try rw [hV504]);clear hV504;replace hg502:=Za hg502;have hBw11:Hid (Below w1.heap.size w1 V503):=Za (hBr.out.trans (hB507.out.mono hBr.out.size));obtain ⟨gm',om',Ar',nr',cr',eA1,m1,hR⟩:=(hM1.out.below hBw11.out).at_ hin
     cases eA1
     rw [Zjz hin] at hR
     obtain rfl:i=nr':=by rw [<- hR.len,Zex]
     have hcr2:=hR.cap;unfold maxLen at hcr2;obtain ⟨gr',or',ln',lA',lk',lc',lm',lB',lj',ld',eA2,⟨l0',l1',l2',l3'⟩,hl2⟩:=hR.at_ hki;subst eA2;rw [Zi5 hki] at hl2;have hl3:=Za hl2;clear hl2 hR m0 l0 l1 l2 l3 hl1;have cc508:V503.cell? ⟨g8+1,0,none⟩=some (.bool an):=qa.out.cell 0;have cc509:V503.cell? ⟨g8+1,1,none⟩=some (.slice aA ak ac):=qa.out.cell 1;have cc510:V503.cell? ⟨g8+1,2,none⟩=some (.bool am):=qa.out.cell 2;have cc511:V503.cell? ⟨g8+1,3,none⟩=some (.slice aB aj ad):=qa.out.cell 3;have cc512:V503.cell? ⟨g501,0,none⟩=some (.bool bn):=q505.out.cell 0;have cc513:V503.cell? ⟨g501,1,none⟩=some (.slice bA bk' bc):=q505.out.cell 1;have cc514:V503.cell? ⟨g501,2,none⟩=some (.bool bm):=q505.out.cell 2;have cc515:V503.cell? ⟨g501,3,none⟩=some (.slice bB bj bd):=q505.out.cell 3;have cc516:V503.cell? ⟨gf,0,none⟩=some (.slice (some ⟨gm,om,none⟩) n c1):=qs2.out.cell 0;have hr517:Below V503.heap.size V503 V503.drew:=Zi (Below.refl _ _) 1;replace qa:=Za (Zc hr517 qa.out);replace hA:=Za (hA.out.below hr517);replace hK9:=Za (hK9.out.below hr517);replace hb1:=Za (hb1.out.below hr517);replace qs2:=Za (Zc hr517 qs2.out);replace q505:=Za (Zc hr517 q505.out);replace hl3:=Za (hl3.out.below hr517);have hB518:=Za (hB507.out.trans (hr517.mono hB507.out.size));clear hB507;replace m1:=Zb hr517 m1;replace l0':=Zb hr517 l0';replace l1':=Zb hr517 l1';replace l2':=Zb hr517 l2';replace l3':=Zb hr517 l3';replace cc508:=Zb hr517 cc508
     replace cc509:=Zb hr517 cc509;replace cc510:=Zb hr517 cc510;replace cc511:=Zb hr517 cc511;replace cc512:=Zb hr517 cc512;replace cc513:=Zb hr517 cc513;replace cc514:=Zb hr517 cc514;replace cc515:=Zb hr517 cc515;replace cc516:=Zb hr517 cc516;clear hr517;refine Z8 [13] (fun wx=>(wx.cell? ⟨gm,om+i,none⟩=some (.slice (some ⟨gr',or',none⟩) i cr'))/\(wx.cell? ⟨gr',or'+k * 4,none⟩=some (.bool ln'))/\(wx.cell? ⟨gr',or'+k * 4+1,none⟩=some (.slice lA' lk' lc'))/\(wx.cell? ⟨gr',or'+k * 4+2,none⟩=some (.bool lm'))/\(wx.cell? ⟨gr',or'+k * 4+3,none⟩=some (.slice lB' lj' ld'))/\(wx.cell? ⟨g8+1,0,none⟩=some (.bool an))/\(wx.cell? ⟨g8+1,1,none⟩=some (.slice aA ak ac))/\(wx.cell? ⟨g8+1,2,none⟩=some (.bool am))/\(wx.cell? ⟨g8+1,3,none⟩=some (.slice aB aj ad))/\(wx.cell? ⟨g501,0,none⟩=some (.bool bn))/\(wx.cell? ⟨g501,1,none⟩=some (.slice bA bk' bc))/\(wx.cell? ⟨g501,2,none⟩=some (.bool bm))/\(wx.cell? ⟨g501,3,none⟩=some (.slice bB bj bd))/\(wx.cell? ⟨gf,0,none⟩=some (.slice (some ⟨gm,om,none⟩) n c1))) hmx ⟨m1,l0',l1',l2',l3',cc508,cc509,cc510,cc511,cc512,cc513,cc514,cc515,cc516⟩ (fun _=>?_);refine Zd (i:=0) (v:=?vt1) rfl (by kernel_rfl) (by kernel_rfl) (by kernel_rfl) (by kernel_rfl) (by kernel_rfl) (Or.inl ⟨by kernel_rfl,?hyt1⟩) ⟨m1,l0',l1',l2',l3',cc508,cc509,cc510,cc511,cc512,cc513,cc514,cc515,cc516⟩ ?rt1
     case hyt1=>(intro W2 hSw;(try dsimp only at hSw);go_simp;try with_reducible rfl)
     try simp only [Act.put,putL_a,putL_z,putL_s,putG_a,putG_s,putG_z]
     refine Zd (i:=1) (v:=?vt2) rfl (by kernel_rfl) (by kernel_rfl) (by kernel_rfl) (by kernel_rfl) (by kernel_rfl) (Or.inl ⟨by kernel_rfl,?hyt2⟩) ⟨m1,l0',l1',l2',l3',cc508,cc509,cc510,cc511,cc512,cc513,cc514,cc515,cc516⟩ ?rt2
     case hyt2=>(intro W2 hSw;(try dsimp only at hSw);go_simp;try with_reducible rfl)
     try simp only [Act.put,putL_a,putL_z,putL_s,putG_a,putG_s,putG_z]
     refine Zd (i:=2) (v:=?vt3) rfl (by kernel_rfl) (by kernel_rfl) (by kernel_rfl) (by kernel_rfl) (by kernel_rfl) (Or.inl ⟨by kernel_rfl,?hyt3⟩) ⟨m1,l0',l1',l2',l3',cc508,cc509,cc510,cc511,cc512,cc513,cc514,cc515,cc516⟩ ?rt3
     case hyt3=>(intro W2 hSw;(try dsimp only at hSw);go_simp;try with_reducible rfl)
     try simp only [Act.put,putL_a,putL_z,putL_s,putG_a,putG_s,putG_z]
     refine Zd (i:=3) (v:=?vt4) rfl (by kernel_rfl) (by kernel_rfl) (by kernel_rfl) (by kernel_rfl) (by kernel_rfl) (Or.inl ⟨by kernel_rfl,?hyt4⟩) ⟨m1,l0',l1',l2',l3',cc508,cc509,cc510,cc511,cc512,cc513,cc514,cc515,cc516⟩ ?rt4
     case hyt4=>(intro W2 hSw;(try dsimp only at hSw);go_simp;try with_reducible rfl)
     try simp only [Act.put,putL_a,putL_z,putL_s,putG_a,putG_s,putG_z]
     refine Zd (i:=4) (v:=?vt5) rfl (by kernel_rfl) (by kernel_rfl) (by kernel_rfl) (by kernel_rfl) (by kernel_rfl) (Or.inl ⟨by kernel_rfl,?hyt5⟩) ⟨m1,l0',l1',l2',l3',cc508,cc509,cc510,cc511,cc512,cc513,cc514,cc515,cc516⟩ ?rt5
     case hyt5=>(intro W2 hSw;(try dsimp only at hSw);go_simp;try with_reducible rfl)
     try simp only [Act.put,putL_a,putL_z,putL_s,putG_a,putG_s,putG_z]
     refine Zd (i:=5) (v:=?vt6) rfl (by kernel_rfl) (by kernel_rfl) (by kernel_rfl) (by kernel_rfl) (by kernel_rfl) (Or.inl ⟨by kernel_rfl,?hyt6⟩) ⟨m1,l0',l1',l2',l3',cc508,cc509,cc510,cc511,cc512,cc513,cc514,cc515,cc516⟩ ?rt6
     case hyt6=>(intro W2 hSw;(try dsimp only at hSw);go_simp;try with_reducible rfl)
     try simp only [Act.put,putL_a,putL_z,putL_s,putG_a,putG_s,putG_z]
     refine Zd (i:=6) (v:=?vt7) rfl (by kernel_rfl) (by kernel_rfl) (by kernel_rfl) (by kernel_rfl) (by kernel_rfl) (Or.inl ⟨by kernel_rfl,?hyt7⟩) ⟨m1,l0',l1',l2',l3',cc508,cc509,cc510,cc511,cc512,cc513,cc514,cc515,cc516⟩ ?rt7
     case hyt7=>(intro W2 hSw;(try dsimp only at hSw);go_simp;try with_reducible rfl)
     try simp only [Act.put,putL_a,putL_z,putL_s,putG_a,putG_s,putG_z]
     refine Zd (i:=7) (v:=?vt8) rfl (by kernel_rfl) (by kernel_rfl) (by kernel_rfl) (by kernel_rfl) (by kernel_rfl) (Or.inl ⟨by kernel_rfl,?hyt8⟩) ⟨m1,l0',l1',l2',l3',cc508,cc509,cc510,cc511,cc512,cc513,cc514,cc515,cc516⟩ ?rt8
     case hyt8=>(intro W2 hSw;(try dsimp only at hSw);go_simp;try with_reducible rfl)
     try simp only [Act.put,putL_a,putL_z,putL_s,putG_a,putG_s,putG_z]
     refine Zd (i:=8) (v:=?vt9) rfl (by kernel_rfl) (by kernel_rfl) (by kernel_rfl) (by kernel_rfl) (by kernel_rfl) (Or.inl ⟨by kernel_rfl,?hyt9⟩) ⟨m1,l0',l1',l2',l3',cc508,cc509,cc510,cc511,cc512,cc513,cc514,cc515,cc516⟩ ?rt9
     case hyt9=>(intro W2 hSw;(try dsimp only at hSw);go_simp;try with_reducible rfl)
     try simp only [Act.put,putL_a,putL_z,putL_s,putG_a,putG_s,putG_z]
     refine Zd (i:=9) (v:=?vt10) rfl (by kernel_rfl) (by kernel_rfl) (by kernel_rfl) (by kernel_rfl) (by kernel_rfl) (Or.inl ⟨by kernel_rfl,?hyt10⟩) ⟨m1,l0',l1',l2',l3',cc508,cc509,cc510,cc511,cc512,cc513,cc514,cc515,cc516⟩ ?rt10
     case hyt10=>(intro W2 hSw;(try dsimp only at hSw);go_simp;try with_reducible rfl)
     try simp only [Act.put,putL_a,putL_z,putL_s,putG_a,putG_s,putG_z]
     obtain ⟨g519,hg520⟩:∃ g,V503.drew.heap.size=g:=⟨_,rfl⟩;obtain ⟨V521,hV522,q523,hb524⟩:=Zae (w:=V503.drew) 99 #[.bool bn,.slice bA bk' bc,.bool bm,.slice bB bj bd];rw [hg520] at q523;refine Ze (i:=10) rfl (by kernel_rfl) (fun K hK=>?_);go_simp;(try rw [hg520]);(try rw [hV522]);clear hV522;replace qa:=Za (Zc hb524 qa.out);replace hA:=Za (hA.out.below hb524);replace hK9:=Za (hK9.out.below hb524);replace hb1:=Za (hb1.out.below hb524);replace qs2:=Za (Zc hb524 qs2.out);replace q505:=Za (Zc hb524 q505.out);replace hl3:=Za (hl3.out.below hb524);have hB525:=Za (hB518.out.trans (hb524.mono hB518.out.size));clear hB518;replace m1:=Zb hb524 m1;replace l0':=Zb hb524 l0';replace l1':=Zb hb524 l1';replace l2':=Zb hb524 l2';replace l3':=Zb hb524 l3';replace cc508:=Zb hb524 cc508;replace cc509:=Zb hb524 cc509;replace cc510:=Zb hb524 cc510;replace cc511:=Zb hb524 cc511;replace cc512:=Zb hb524 cc512;replace cc513:=Zb hb524 cc513;replace cc514:=Zb hb524 cc514;replace cc515:=Zb hb524 cc515;replace cc516:=Zb hb524 cc516;clear hb524;replace q523:=Za q523;replace hg520:=Za hg520;refine hK.out _ _ (fun _=>⟨m1,l0',l1',l2',l3',cc508,cc509,cc510,cc511,cc512,cc513,cc514,cc515,cc516⟩) ?_;clear hK K
     try simp only [Act.put,putL_a,putL_z,putL_s,putG_a,putG_s,putG_z]
     have hFb:=FL.sing1 q523.out hb1.out;replace hFb:=Za hFb;have sl:Sm (lQ AQ i k):=hS.out.l i k hki hin;have sz:Sm (zV AQ n X k):=hS.out.a k k (Nat.le_refl _) (by omega);refine Ze (i:=11) rfl (by kernel_rfl) (fun K hK=>?_);go_simp;refine (Zb4 ln' lA' lk' lc' lm' lB' lj' ld' _ (some ⟨g519,0,none⟩) 1 1 [zV AQ n X k] V521 hl3.out hFb.out (by decide) (Zde sl) (Zd1 sz)).mono ?_;rintro e w526 ⟨hbP,pn,pA,pk,pc,pm,pB,pj,pd,rfl,pf⟩;replace qa:=Za (Zc hbP qa.out);replace hA:=Za (hA.out.below hbP);replace hK9:=Za (hK9.out.below hbP);replace hb1:=Za (hb1.out.below hbP);replace qs2:=Za (Zc hbP qs2.out);replace q505:=Za (Zc hbP q505.out);replace hl3:=Za (hl3.out.below hbP);replace q523:=Za (Zc hbP q523.out);replace hFb:=Za (hFb.out.below hbP);have hB527:=Za (hB525.out.trans (hbP.mono hB525.out.size));clear hB525;replace m1:=Zb hbP m1;replace l0':=Zb hbP l0';replace l1':=Zb hbP l1';replace l2':=Zb hbP l2';replace l3':=Zb hbP l3';replace cc508:=Zb hbP cc508;replace cc509:=Zb hbP cc509;replace cc510:=Zb hbP cc510;replace cc511:=Zb hbP cc511;replace cc512:=Zb hbP cc512;replace cc513:=Zb hbP cc513;replace cc514:=Zb hbP cc514;replace cc515:=Zb hbP cc515;replace cc516:=Zb hbP cc516;clear hbP;rw [Zfn] at pf;replace pf:=Za pf;refine hK.out _ _ (fun _=>⟨m1,l0',l1',l2',l3',cc508,cc509,cc510,cc511,cc512,cc513,cc514,cc515,cc516⟩) ?_;clear hK K
     try simp only [Act.put,putL_a,putL_z,putL_s,putG_a,putG_s,putG_z]
     refine Ze (i:=12) rfl (by kernel_rfl) (fun K hK=>?_);go_simp;refine (Zd2 an am pn pm aA aB pA pB ak ac aj ad pk pc pj pd _ _ w526 hA.out pf.out (hS.out.a k i (by omega) hin) (hS.out.ly i k hki hin)).mono ?_;rintro e w528 ⟨hbR,rn,rA,rk,rc,rm,rB,rj,rd,rfl,rf⟩;replace qa:=Za (Zc hbR qa.out);replace hA:=Za (hA.out.below hbR);replace hK9:=Za (hK9.out.below hbR);replace hb1:=Za (hb1.out.below hbR);replace qs2:=Za (Zc hbR qs2.out);replace q505:=Za (Zc hbR q505.out);replace hl3:=Za (hl3.out.below hbR);replace q523:=Za (Zc hbR q523.out);replace hFb:=Za (hFb.out.below hbR);replace pf:=Za (pf.out.below hbR);have hB529:=Za (hB527.out.trans (hbR.mono hB527.out.size));clear hB527;replace m1:=Zb hbR m1;replace l0':=Zb hbR l0';replace l1':=Zb hbR l1';replace l2':=Zb hbR l2';replace l3':=Zb hbR l3';replace cc508:=Zb hbR cc508;replace cc509:=Zb hbR cc509;replace cc510:=Zb hbR cc510;replace cc511:=Zb hbR cc511;replace cc512:=Zb hbR cc512;replace cc513:=Zb hbR cc513;replace cc514:=Zb hbR cc514;replace cc515:=Zb hbR cc515;replace cc516:=Zb hbR cc516;clear hbR;rw [<- Zln hki hin] at rf;replace rf:=Za rf;refine hK.out _ _ (fun _=>⟨m1,l0',l1',l2',l3',cc508,cc509,cc510,cc511,cc512,cc513,cc514,cc515,cc516⟩) ?_;clear hK K
     try simp only [Act.put,putL_a,putL_z,putL_s,putG_a,putG_s,putG_z]
     obtain ⟨fz0,fz1,fz2,fz3⟩:w528.frozen? ⟨g8+1,0,none⟩=false/\w528.frozen? ⟨g8+1,1,none⟩=false/\w528.frozen? ⟨g8+1,2,none⟩=false/\w528.frozen? ⟨g8+1,3,none⟩=false:=⟨qa.out.frozen 0,qa.out.frozen 1,qa.out.frozen 2,qa.out.frozen 3⟩;obtain ⟨W5,hW5,q5,hK5,s5⟩:=Zao rn rA rk rc rm rB rj rd qa.out;refine Zp (i:=13) rfl (by kernel_rfl) (by kernel_rfl) (fun K hK=>?_);go_simp;(try rw [hW5]);refine hK.out _ _ ?_;clear hK K
     try simp only [Act.put,putL_a,putL_z,putL_s,putG_a,putG_s,putG_z]
     have rf5:=Za (rf.out.keptN hK5 qa.out (Zay _ _ _ _ _ _ _ _));have hK10:Hid (Kept (fun k=>k=g8+1) V9 W5):=Za (Kept.trans hK9.out hK5);have q5':=Za q5;clear fz0 fz1 fz2 fz3 hW5 hK5 s5 q5 rf pf hA qa hFb q523 sl sz;refine Zj (by kernel_rfl) ?_ _;refine OnlyNormal.normal ?_;clear m1 l0' l1' l2' l3' cc508 cc509 cc510 cc511 cc512 cc513 cc514 cc515 cc516;go_wp2_with fail
     go_roundg (i - (k+1))
     case measure=>omega
     case rel=>exact ⟨k+1,_,_,_,_,_,_,_,_,by omega,by go_num,q5',rf5,hK10⟩
    | zero =>
     obtain rfl:k=i:=by omega
     have t2:decide ((k:Int) < (k:Int))=false:=by simp
     have hzA:Zl (brd AQ X n) k k n=zV AQ n X k:=rfl;rw [hzA] at hA;obtain ⟨Y1,hY1,qz,hbY⟩:=Zae (w:=wk) 99 #[.bool an,.slice aA ak ac,.bool am,.slice aB aj ad];obtain ⟨gz,hgz⟩:∃ g,wk.heap.size=g:=⟨_,rfl⟩;rw [hgz] at qz;have hBY:Below wi.heap.size wi Y1:=hBk.out.trans (hbY.mono hBk.out.size);have hOY:=hO.out.kept hBY;have hAY:=hA.out.below hbY;have hsz:=(hK.out.below hBY).size
     have hll:(zL AQ n X k).length+1 <= 1000:=by rw [Zpe];omega
     obtain ⟨a0,a1,a2,a3,-⟩:=qa.out.four;replace hzA:=Za hzA;go_wp2_with ((try rw [hY1]);(try rw [hgz]);at_builtin;refine Zd7 _ rfl (.tmp 43) (.tmp 45) 92 rfl V5.heap.size 99 iN Tryz.underlying92 hi hz0 hz1 hz2 _ _ rfl hOY _ (some ⟨gz,0,none⟩) 1 1 [⟨an,aA,ak,ac,am,aB,aj,ad,zV AQ n X k⟩] rfl (Zbm _ qz) rfl (by intro e he;rw [List.mem_singleton] at he;subst he;exact hAY) hll hsz ?_;intro v7 w7 hO7 hg7 hk7);simp only [List.map_cons,List.map_nil] at hO7;rw [<- zL_succ] at hO7;obtain ⟨Ay7,cy7,e7,hF7⟩:=hO7.fl;rw [Zpe] at e7 hF7;subst e7;have hcy7:=hF7.cap;unfold maxLen at hcy7
     have hyo:∀ q,(Value.slice Ay k cy).ownBlock=some q->V5.heap.size <= q/\q < wi.heap.size:=fun q e=>⟨hO.out.row_ge q e,hO.out.blt q e⟩
     have hK7:Kept (fun q=>q=g3) V5 w7:=Kept.grownC (hK.out.below hBY) hg7 (fun q e=>(hyo q e).1);have hBr7:Hid (Below w1.heap.size w1 w7):=Za (hbG.out.trans (hK7.to_below (fun q e=>by rw [e];exact Nat.le_of_eq hg4.out) hbG.out.size))
     have qs7:Hid (Blk w7 g3 99 #[.bool sn,.slice sA sk sc,.bool sm,.slice sB sj sd]):=Za ((hg7.block g3 (by have:=hBY.size;omega) (fun e=>by
      have h9:=(hyo g3 (by first | exact e | exact e.symm)).1
      omega)).trans (Zc hBY qs.out))
     have qa7:Hid (Blk w7 (g8+1) 99 #[.bool an,.slice aA ak ac,.bool am,.slice aB aj ad]):=Za ((hg7.block (g8+1) (by have:=hbY.size;have:=qa.out.lt;omega) (fun e=>by
      have h9:=(hyo (g8+1) (by first | exact e | exact e.symm)).2
      omega)).trans (Zc hbY qa.out))
     have hs7:Hid (Fr w7 sn sA sk sc sm sB sj sd (Z4 k (fun s=>zV AQ n X s * zV AQ n X s / dQ AQ s))):=Za ((hs.out.below hBY).of_keep hk7);have hA7:Hid (Fr w7 an aA ak ac am aB aj ad (zV AQ n X k)):=Za (hAY.of_keep hk7);obtain ⟨gd,od,dn,dA,dk,dc,dm,dB,dj,dd,eA3,⟨d0,d1,d2,d3⟩,hd⟩:=(hD1.out.below hBr7.out).at_ hin;subst eA3;rw [Zmq hin] at hd;have hd7:=Za hd;have qf7:=Za (Zc hBr7.out qf1.out);have hO8:=Za hO7;have hK8:=Za hK7;have hgsz:=Za hsz
     have sw7:g3 < V5.heap.size:=by omega
     replace hF7:=Za hF7;clear hd hO7 hK7 hY1 hgz hbY hBY hOY hAY hsz hk7 hg7 hyo a0 a1 a2 a3 qz;have hBz:Hid (Below w7.heap.size w7 w7):=Za (Below.refl _ _);go_wp2_with fail;have cc801:w7.cell? ⟨g3,0,none⟩=some (.bool sn):=qs7.out.cell 0;have cc802:w7.cell? ⟨g3,1,none⟩=some (.slice sA sk sc):=qs7.out.cell 1;have cc803:w7.cell? ⟨g3,2,none⟩=some (.bool sm):=qs7.out.cell 2;have cc804:w7.cell? ⟨g3,3,none⟩=some (.slice sB sj sd):=qs7.out.cell 3;have cc805:w7.cell? ⟨g8+1,0,none⟩=some (.bool an):=qa7.out.cell 0;have cc806:w7.cell? ⟨g8+1,1,none⟩=some (.slice aA ak ac):=qa7.out.cell 1;have cc807:w7.cell? ⟨g8+1,2,none⟩=some (.bool am):=qa7.out.cell 2;have cc808:w7.cell? ⟨g8+1,3,none⟩=some (.slice aB aj ad):=qa7.out.cell 3;have cc809:w7.cell? ⟨gf,1,none⟩=some (.slice (some ⟨gd,od,none⟩) n c2):=qf7.out.cell 1;have hr810:Below w7.heap.size w7 w7.drew:=Zi (Below.refl _ _) 1;replace hBz:=Za (hBz.out.trans (hr810.mono hBz.out.size));replace qs7:=Za (Zc hr810 qs7.out);replace qa7:=Za (Zc hr810 qa7.out);replace hs7:=Za (hs7.out.below hr810);replace hA7:=Za (hA7.out.below hr810);replace hd7:=Za (hd7.out.below hr810);replace qf7:=Za (Zc hr810 qf7.out);replace hK8:=Za (hK8.out.below hr810);have hB811:=Za (hBr7.out.trans (hr810.mono hBr7.out.size));clear hBr7;replace cc801:=Zb hr810 cc801;replace cc802:=Zb hr810 cc802;replace cc803:=Zb hr810 cc803;replace cc804:=Zb hr810 cc804;replace cc805:=Zb hr810 cc805;replace cc806:=Zb hr810 cc806
     replace cc807:=Zb hr810 cc807;replace cc808:=Zb hr810 cc808;replace cc809:=Zb hr810 cc809;replace d0:=Zb hr810 d0;replace d1:=Zb hr810 d1;replace d2:=Zb hr810 d2;replace d3:=Zb hr810 d3;clear hr810;refine Z8 [13] (fun wx=>(wx.cell? ⟨g3,0,none⟩=some (.bool sn))/\(wx.cell? ⟨g3,1,none⟩=some (.slice sA sk sc))/\(wx.cell? ⟨g3,2,none⟩=some (.bool sm))/\(wx.cell? ⟨g3,3,none⟩=some (.slice sB sj sd))/\(wx.cell? ⟨g8+1,0,none⟩=some (.bool an))/\(wx.cell? ⟨g8+1,1,none⟩=some (.slice aA ak ac))/\(wx.cell? ⟨g8+1,2,none⟩=some (.bool am))/\(wx.cell? ⟨g8+1,3,none⟩=some (.slice aB aj ad))/\(wx.cell? ⟨gf,1,none⟩=some (.slice (some ⟨gd,od,none⟩) n c2))/\(wx.cell? ⟨gd,od+k * 4,none⟩=some (.bool dn))/\(wx.cell? ⟨gd,od+k * 4+1,none⟩=some (.slice dA dk dc))/\(wx.cell? ⟨gd,od+k * 4+2,none⟩=some (.bool dm))/\(wx.cell? ⟨gd,od+k * 4+3,none⟩=some (.slice dB dj dd))) hmx ⟨cc801,cc802,cc803,cc804,cc805,cc806,cc807,cc808,cc809,d0,d1,d2,d3⟩ (fun _=>?_);refine Zd (i:=0) (v:=?vt11) rfl (by kernel_rfl) (by kernel_rfl) (by kernel_rfl) (by kernel_rfl) (by kernel_rfl) (Or.inl ⟨by kernel_rfl,?hyt11⟩) ⟨cc801,cc802,cc803,cc804,cc805,cc806,cc807,cc808,cc809,d0,d1,d2,d3⟩ ?rt11
     case hyt11=>(intro W2 hSw;(try dsimp only at hSw);go_simp;try with_reducible rfl)
     try simp only [Act.put,putL_a,putL_z,putL_s,putG_a,putG_s,putG_z]
     refine Zd (i:=1) (v:=?vt12) rfl (by kernel_rfl) (by kernel_rfl) (by kernel_rfl) (by kernel_rfl) (by kernel_rfl) (Or.inl ⟨by kernel_rfl,?hyt12⟩) ⟨cc801,cc802,cc803,cc804,cc805,cc806,cc807,cc808,cc809,d0,d1,d2,d3⟩ ?rt12
     case hyt12=>(intro W2 hSw;(try dsimp only at hSw);go_simp;try with_reducible rfl)
     try simp only [Act.put,putL_a,putL_z,putL_s,putG_a,putG_s,putG_z]
     refine Zd (i:=2) (v:=?vt13) rfl (by kernel_rfl) (by kernel_rfl) (by kernel_rfl) (by kernel_rfl) (by kernel_rfl) (Or.inl ⟨by kernel_rfl,?hyt13⟩) ⟨cc801,cc802,cc803,cc804,cc805,cc806,cc807,cc808,cc809,d0,d1,d2,d3⟩ ?rt13
     case hyt13=>(intro W2 hSw;(try dsimp only at hSw);go_simp;try with_reducible rfl)
     try simp only [Act.put,putL_a,putL_z,putL_s,putG_a,putG_s,putG_z]
     refine Zd (i:=5) (v:=?vt14) rfl (by kernel_rfl) (by kernel_rfl) (by kernel_rfl) (by kernel_rfl) (by kernel_rfl) (Or.inl ⟨by kernel_rfl,?hyt14⟩) ⟨cc801,cc802,cc803,cc804,cc805,cc806,cc807,cc808,cc809,d0,d1,d2,d3⟩ ?rt14
     case hyt14=>(intro W2 hSw;(try dsimp only at hSw);go_simp;try with_reducible rfl)
     try simp only [Act.put,putL_a,putL_z,putL_s,putG_a,putG_s,putG_z]
     refine Zd (i:=6) (v:=?vt15) rfl (by kernel_rfl) (by kernel_rfl) (by kernel_rfl) (by kernel_rfl) (by kernel_rfl) (Or.inl ⟨by kernel_rfl,?hyt15⟩) ⟨cc801,cc802,cc803,cc804,cc805,cc806,cc807,cc808,cc809,d0,d1,d2,d3⟩ ?rt15
     case hyt15=>(intro W2 hSw;(try dsimp only at hSw);go_simp;try with_reducible rfl)
     try simp only [Act.put,putL_a,putL_z,putL_s,putG_a,putG_s,putG_z]
     refine Zd (i:=7) (v:=?vt16) rfl (by kernel_rfl) (by kernel_rfl) (by kernel_rfl) (by kernel_rfl) (by kernel_rfl) (Or.inl ⟨by kernel_rfl,?hyt16⟩) ⟨cc801,cc802,cc803,cc804,cc805,cc806,cc807,cc808,cc809,d0,d1,d2,d3⟩ ?rt16
     case hyt16=>(intro W2 hSw;(try dsimp only at hSw);go_simp;try with_reducible rfl)
     try simp only [Act.put,putL_a,putL_z,putL_s,putG_a,putG_s,putG_z]
     refine Zd (i:=8) (v:=?vt17) rfl (by kernel_rfl) (by kernel_rfl) (by kernel_rfl) (by kernel_rfl) (by kernel_rfl) (Or.inl ⟨by kernel_rfl,?hyt17⟩) ⟨cc801,cc802,cc803,cc804,cc805,cc806,cc807,cc808,cc809,d0,d1,d2,d3⟩ ?rt17
     case hyt17=>(intro W2 hSw;(try dsimp only at hSw);go_simp;try with_reducible rfl)
     try simp only [Act.put,putL_a,putL_z,putL_s,putG_a,putG_s,putG_z]
     refine Zd (i:=9) (v:=?vt18) rfl (by kernel_rfl) (by kernel_rfl) (by kernel_rfl) (by kernel_rfl) (by kernel_rfl) (Or.inl ⟨by kernel_rfl,?hyt18⟩) ⟨cc801,cc802,cc803,cc804,cc805,cc806,cc807,cc808,cc809,d0,d1,d2,d3⟩ ?rt18
     case hyt18=>(intro W2 hSw;(try dsimp only at hSw);go_simp;try with_reducible rfl)
     try simp only [Act.put,putL_a,putL_z,putL_s,putG_a,putG_s,putG_z]
     obtain ⟨g812,hg813⟩:∃ g,w7.drew.heap.size=g:=⟨_,rfl⟩;obtain ⟨V814,hV815,q816,hb817⟩:=Zae (w:=w7.drew) 99 #[.bool an,.slice aA ak ac,.bool am,.slice aB aj ad];rw [hg813] at q816;refine Ze (i:=3) rfl (by kernel_rfl) (fun K hK=>?_);go_simp;(try rw [hg813]);(try rw [hV815]);clear hV815;replace hBz:=Za (hBz.out.trans (hb817.mono hBz.out.size));replace qs7:=Za (Zc hb817 qs7.out);replace qa7:=Za (Zc hb817 qa7.out);replace hs7:=Za (hs7.out.below hb817);replace hA7:=Za (hA7.out.below hb817);replace hd7:=Za (hd7.out.below hb817);replace qf7:=Za (Zc hb817 qf7.out);replace hK8:=Za (hK8.out.below hb817);have hB818:=Za (hB811.out.trans (hb817.mono hB811.out.size));clear hB811;replace cc801:=Zb hb817 cc801;replace cc802:=Zb hb817 cc802;replace cc803:=Zb hb817 cc803;replace cc804:=Zb hb817 cc804;replace cc805:=Zb hb817 cc805;replace cc806:=Zb hb817 cc806;replace cc807:=Zb hb817 cc807;replace cc808:=Zb hb817 cc808;replace cc809:=Zb hb817 cc809;replace d0:=Zb hb817 d0;replace d1:=Zb hb817 d1;replace d2:=Zb hb817 d2;replace d3:=Zb hb817 d3;clear hb817;replace q816:=Za q816;replace hg813:=Za hg813;refine hK.out _ _ (fun _=>⟨cc801,cc802,cc803,cc804,cc805,cc806,cc807,cc808,cc809,d0,d1,d2,d3⟩) ?_;clear hK K
     try simp only [Act.put,putL_a,putL_z,putL_s,putG_a,putG_s,putG_z]
     have hFb:=Za (FL.sing1 q816.out hA7.out);have szz:Sm (zV AQ n X k):=hS.out.a k k (Nat.le_refl _) hin;have hd0:dQ AQ k ≠ 0:=hp.out.ne hin;refine Ze (i:=4) rfl (by kernel_rfl) (fun K hK=>?_);go_simp;refine (Zb4 an aA ak ac am aB aj ad _ (some ⟨g812,0,none⟩) 1 1 [zV AQ n X k] V814 hA7.out hFb.out (by decide) (Zde szz) (Zd1 szz)).mono ?_;rintro e w819 ⟨hbP,pn,pA,pk,pc,pm,pB,pj,pd,rfl,pf⟩;replace hBz:=Za (hBz.out.trans (hbP.mono hBz.out.size));replace qs7:=Za (Zc hbP qs7.out);replace qa7:=Za (Zc hbP qa7.out);replace hs7:=Za (hs7.out.below hbP);replace hA7:=Za (hA7.out.below hbP);replace hd7:=Za (hd7.out.below hbP);replace qf7:=Za (Zc hbP qf7.out);replace hK8:=Za (hK8.out.below hbP);replace q816:=Za (Zc hbP q816.out);replace hFb:=Za (hFb.out.below hbP);have hB820:=Za (hB818.out.trans (hbP.mono hB818.out.size));clear hB818;replace cc801:=Zb hbP cc801;replace cc802:=Zb hbP cc802;replace cc803:=Zb hbP cc803;replace cc804:=Zb hbP cc804;replace cc805:=Zb hbP cc805;replace cc806:=Zb hbP cc806;replace cc807:=Zb hbP cc807;replace cc808:=Zb hbP cc808;replace cc809:=Zb hbP cc809;replace d0:=Zb hbP d0;replace d1:=Zb hbP d1;replace d2:=Zb hbP d2;replace d3:=Zb hbP d3;clear hbP;rw [Zfn] at pf;replace pf:=Za pf;refine hK.out _ _ (fun _=>⟨cc801,cc802,cc803,cc804,cc805,cc806,cc807,cc808,cc809,d0,d1,d2,d3⟩) ?_;clear hK K
     try simp only [Act.put,putL_a,putL_z,putL_s,putG_a,putG_s,putG_z]
     refine Ze (i:=10) rfl (by kernel_rfl) (fun K hK=>?_);go_simp;refine (Zj9 pn pm dn dm pA pB dA dB pk pc pj pd dk dc dj dd _ _ w819 pf.out hd7.out (hS.out.zz k hin) (hS.out.d k hin) hd0).mono ?_;rintro e w821 ⟨hbQ,qn,qA,qk,qc,qm,qB,qj,qd,rfl,qf⟩;replace hBz:=Za (hBz.out.trans (hbQ.mono hBz.out.size));replace qs7:=Za (Zc hbQ qs7.out);replace qa7:=Za (Zc hbQ qa7.out);replace hs7:=Za (hs7.out.below hbQ);replace hA7:=Za (hA7.out.below hbQ);replace hd7:=Za (hd7.out.below hbQ);replace qf7:=Za (Zc hbQ qf7.out);replace hK8:=Za (hK8.out.below hbQ);replace q816:=Za (Zc hbQ q816.out);replace hFb:=Za (hFb.out.below hbQ);replace pf:=Za (pf.out.below hbQ);have hB822:=Za (hB820.out.trans (hbQ.mono hB820.out.size));clear hB820;replace cc801:=Zb hbQ cc801;replace cc802:=Zb hbQ cc802;replace cc803:=Zb hbQ cc803;replace cc804:=Zb hbQ cc804;replace cc805:=Zb hbQ cc805;replace cc806:=Zb hbQ cc806;replace cc807:=Zb hbQ cc807;replace cc808:=Zb hbQ cc808;replace cc809:=Zb hbQ cc809;replace d0:=Zb hbQ d0;replace d1:=Zb hbQ d1;replace d2:=Zb hbQ d2;replace d3:=Zb hbQ d3;clear hbQ;replace qf:=Za qf;refine hK.out _ _ (fun _=>⟨cc801,cc802,cc803,cc804,cc805,cc806,cc807,cc808,cc809,d0,d1,d2,d3⟩) ?_;clear hK K
     try simp only [Act.put,putL_a,putL_z,putL_s,putG_a,putG_s,putG_z]
     obtain ⟨g823,hg824⟩:∃ g,w821.heap.size=g:=⟨_,rfl⟩;obtain ⟨V825,hV826,q827,hb828⟩:=Zae (w:=w821) 99 #[.bool sn,.slice sA sk sc,.bool sm,.slice sB sj sd,.bool qn,.slice qA qk qc,.bool qm,.slice qB qj qd];rw [hg824] at q827;refine Ze (i:=11) rfl (by kernel_rfl) (fun K hK=>?_);go_simp;(try rw [hg824]);(try rw [hV826]);clear hV826;replace hBz:=Za (hBz.out.trans (hb828.mono hBz.out.size));replace qs7:=Za (Zc hb828 qs7.out);replace qa7:=Za (Zc hb828 qa7.out);replace hs7:=Za (hs7.out.below hb828);replace hA7:=Za (hA7.out.below hb828);replace hd7:=Za (hd7.out.below hb828);replace qf7:=Za (Zc hb828 qf7.out);replace hK8:=Za (hK8.out.below hb828);replace q816:=Za (Zc hb828 q816.out);replace hFb:=Za (hFb.out.below hb828);replace pf:=Za (pf.out.below hb828);replace qf:=Za (qf.out.below hb828);have hB829:=Za (hB822.out.trans (hb828.mono hB822.out.size));clear hB822;replace cc801:=Zb hb828 cc801;replace cc802:=Zb hb828 cc802;replace cc803:=Zb hb828 cc803;replace cc804:=Zb hb828 cc804;replace cc805:=Zb hb828 cc805;replace cc806:=Zb hb828 cc806;replace cc807:=Zb hb828 cc807;replace cc808:=Zb hb828 cc808;replace cc809:=Zb hb828 cc809;replace d0:=Zb hb828 d0;replace d1:=Zb hb828 d1;replace d2:=Zb hb828 d2;replace d3:=Zb hb828 d3;clear hb828;replace q827:=Za q827;replace hg824:=Za hg824;refine hK.out _ _ (fun _=>⟨cc801,cc802,cc803,cc804,cc805,cc806,cc807,cc808,cc809,d0,d1,d2,d3⟩) ?_;clear hK K
     try simp only [Act.put,putL_a,putL_z,putL_s,putG_a,putG_s,putG_z]
     have hFc:=Za (FL.pair2 q827.out hs7.out qf.out);refine Ze (i:=12) rfl (by kernel_rfl) (fun K hK=>?_);go_simp;refine (Znc (some ⟨g823,0,none⟩) 2 2 [_,_] V825 hFc.out (by decide) (Zmu (hS.out.s k (by omega))) (Zo9 (hS.out.s k (by omega)) (hS.out.q k hin))).mono ?_;rintro e w830 ⟨hbR,rn,rA,rk,rc,rm,rB,rj,rd,rfl,rf⟩;replace hBz:=Za (hBz.out.trans (hbR.mono hBz.out.size));replace qs7:=Za (Zc hbR qs7.out);replace qa7:=Za (Zc hbR qa7.out);replace hs7:=Za (hs7.out.below hbR);replace hA7:=Za (hA7.out.below hbR);replace hd7:=Za (hd7.out.below hbR);replace qf7:=Za (Zc hbR qf7.out);replace hK8:=Za (hK8.out.below hbR);replace q816:=Za (Zc hbR q816.out);replace hFb:=Za (hFb.out.below hbR);replace pf:=Za (pf.out.below hbR);replace qf:=Za (qf.out.below hbR);replace q827:=Za (Zc hbR q827.out);replace hFc:=Za (hFc.out.below hbR);have hB831:=Za (hB829.out.trans (hbR.mono hB829.out.size));clear hB829;replace cc801:=Zb hbR cc801;replace cc802:=Zb hbR cc802;replace cc803:=Zb hbR cc803;replace cc804:=Zb hbR cc804;replace cc805:=Zb hbR cc805;replace cc806:=Zb hbR cc806;replace cc807:=Zb hbR cc807;replace cc808:=Zb hbR cc808;replace cc809:=Zb hbR cc809;replace d0:=Zb hbR d0;replace d1:=Zb hbR d1;replace d2:=Zb hbR d2;replace d3:=Zb hbR d3;clear hbR;rw [sumF2] at rf;replace rf:=Za rf;refine hK.out _ _ (fun _=>⟨cc801,cc802,cc803,cc804,cc805,cc806,cc807,cc808,cc809,d0,d1,d2,d3⟩) ?_;clear hK K
     try simp only [Act.put,putL_a,putL_z,putL_s,putG_a,putG_s,putG_z]
     obtain ⟨fz0,fz1,fz2,fz3⟩:w830.frozen? ⟨g3,0,none⟩=false/\w830.frozen? ⟨g3,1,none⟩=false/\w830.frozen? ⟨g3,2,none⟩=false/\w830.frozen? ⟨g3,3,none⟩=false:=⟨qs7.out.frozen 0,qs7.out.frozen 1,qs7.out.frozen 2,qs7.out.frozen 3⟩;obtain ⟨W5,hW5,q5,hK5,s5⟩:=Zao rn rA rk rc rm rB rj rd qs7.out;refine Zp (i:=13) rfl (by kernel_rfl) (by kernel_rfl) (fun K hK=>?_);go_simp;(try rw [hW5]);refine hK.out _ _ ?_;clear hK K
     try simp only [Act.put,putL_a,putL_z,putL_s,putG_a,putG_s,putG_z]
     have rf5:Hid (Fr W5 rn rA rk rc rm rB rj rd (Z4 (k+1) (fun s=>zV AQ n X s * zV AQ n X s / dQ AQ s))):=Za (rf.out.keptN hK5 qs7.out (Zay _ _ _ _ _ _ _ _));have hK10:Hid (Kept (fun q=>q=g3) V5 W5):=Za (Kept.trans hK8.out hK5);have hO9:=hO8.out.kept hBz.out;have hO10:Hid (OwnF 99 W5 V5.heap.size (.slice Ay7 (k+1) cy7) (zL AQ n X (k+1))):=Za (hO9.keptG qs7.out (Zay _ _ _ _ _ _ _ _) (fun e=>by have:=hO9.row_ge g3 e;omega) hK5);have q5':=Za q5;clear fz0 fz1 fz2 fz3 hW5 hK5 s5 q5 rf pf qf hs7 hA7 qs7 qa7 hFb hFc q816 q827 szz hd0 hO9;refine Zj (by kernel_rfl) ?_ _;refine OnlyNormal.normal ?_;clear cc801 cc802 cc803 cc804 cc805 cc806 cc807 cc808 cc809 d0 d1 d2 d3;go_wp2_with fail
     go_roundg (n - (k+1))
     case measure=>omega
     case rel=>exact ⟨k+1,_,_,_,_,_,_,_,_,by omega,by go_num,hO10,q5',rf5,hK10⟩
def FracPost (E:Int) (V:Rat) (w:World) (e:Ending) (w':World):Prop:=
 Below w.heap.size w w'/\((E=0/\∃ na A n c nb B m d,e=.returned (.tuple #[.agg #[.bool na,.slice A n c,.bool nb,.slice B m d],.int .i64 0])/\Fr w' na A n c nb B m d V) \/
  (E ≠ 0/\e=.returned (.tuple #[.agg #[.bool false,.slice none 0 0,.bool false,.slice none 0 0],.int .i64 E])))
theorem FracPost.fall {E0 E:Int} {V:Rat} {w w':World} (hb:Below w.heap.size w w') (h:E0=E) (h0:E ≠ 0):FracPost E0 V w (.returned (.tuple #[.agg #[.bool false,.slice none 0 0,.bool false,.slice none 0 0],.int .i64 E])) w':=by
 subst h;exact ⟨hb,.inr ⟨h0,rfl⟩⟩
def Zol (rs:List RX) (i k:Int):Int:=if Zar rs ≠ 0 then Zar rs else if 0 <= i/\i < (rs.length:Int)/\0 <= k/\k < (rs.length:Int) then 0 else 8
def corV (rs:List RX) (i k:Int):Rat:=Zg (qM rs) i.toNat k.toNat * Zg (qM rs) i.toNat k.toNat / (Zg (qM rs) i.toNat i.toNat * Zg (qM rs) k.toNat k.toNat)
section
variable {rs:List RX} {i k E:Int}
theorem Zog (h:Zar rs=E) (h0:E ≠ 0):Zol rs i k=E:=by subst h;exact if_pos h0
theorem Ze0 (h:Zar rs=0) (hb:¬ (0 <= i/\i < (rs.length:Int)/\0 <= k/\k < (rs.length:Int))):Zol rs i k=8:=by
 unfold Zol;rw [if_neg (by simp [h])];exact if_neg hb
theorem Zqs (h:Zar rs=0) (hb:0 <= i/\i < (rs.length:Int)/\0 <= k/\k < (rs.length:Int)):Zol rs i k=0:=by
 unfold Zol;rw [if_neg (by simp [h])];exact if_pos hb
end
theorem MFL.ents {w:World} {g o n c:Nat} {Q:List (List Rat)} (h:MFL w (some ⟨g,o,none⟩) n c Q) (hr:∀ i,i < n->(Q[i]?.getD []).length=n) {I:Nat} (hI:I < n):∃ gi oi ci,w.cell? ⟨g,o+I,none⟩=some (.slice (some ⟨gi,oi,none⟩) n ci)/\n <= ci/\ci <= maxLen/\∀ K,K < n->∃ na A1 n1 c1 nb B m d,At4 w gi (oi+K * 4) na A1 n1 c1 nb B m d/\Fr w na A1 n1 c1 nb B m d (Zg Q I K):=by
 obtain ⟨A',n',c',h1,h2⟩:=h.atS hI;have hl:=h2.len;rw [hr I hI] at hl;subst hl;obtain ⟨gi,oi,-,-,-,-,-,-,-,-,rfl,-,-⟩:=h2.at_ (k:=0) (by omega);refine ⟨gi,oi,c',h1,h2.cap.1,h2.cap.2,fun K hK=>?_⟩;obtain ⟨g9,o9,na,A1,n1,c1,nb,B,m,d,e,h3,h4⟩:=h2.at_ hK
 cases e
 exact ⟨_,_,_,_,_,_,_,_,h3,h4⟩
theorem Zpy (a:Rat):0 <= a * a:=by
 rcases Rat.le_total (a:=0) (b:=a) with h | h
 ·exact Rat.mul_nonneg h h
 ·have e:a * a=(-a) * (-a):=by grind
  have h2:0 <= -a:=Rat.neg_le_neg h |> fun h3=>by rw [Rat.neg_zero] at h3;exact h3
  rw [e];exact Rat.mul_nonneg h2 h2
theorem Zl4 {A:Nat->Nat->Rat} {n:Nat} (hA:∀ i k,i < n->k < n->A i k=A k i) (hp:posP A n) {k:Nat} (hk:k < n):∀ f t,t+f=k->0 < Zl A t k k
 | 0,t,h=>by
  obtain rfl:t=k:=by omega
  exact hp t hk
 | f+1,t,h=>by
  have h1:=Zl4 hA hp hk f (t+1) (by omega);have hd:=hp t (by omega);have h2:=Zjl hA (t:=t) (i:=k) (k:=k) (by omega) (Nat.le_refl _) hk (hp.ne (by omega));have h3:=Rat.mul_nonneg (Zpy (lQ A k t)) (Rat.le_of_lt hd)
  have e:Zl A t k k=Zl A (t+1) k k+lQ A k t * lQ A k t * dQ A t:=by rw [h2];grind
  rw [e]
  have h6:Zl A (t+1) k k <= Zl A (t+1) k k+lQ A k t * lQ A k t * dQ A t:=by grind
  exact Rat.not_le.1 fun h5=>Rat.not_le.2 h1 (Rat.le_trans h6 h5)
theorem Zev {rs:List RX} (h0:Zar rs=0) {k:Nat} (hk:k < rs.length):0 < Zg (qM rs) k k:=by
 obtain ⟨hcV,hcS,hcP⟩:=Zdx h0;exact Zl4 (A:=Zg (qM rs)) (n:=rs.length) (fun i k hi hk=>symB_iff.1 hcS i k (by unfold qM;rw [List.length_map];exact hi) (by unfold qM;rw [List.length_map];exact hk)) hcP (k:=k) (by omega) k 0 (by omega)
theorem Zrj (A:Option Addr) (n c:Nat) (rs:List RX) (i k:Int) (w:World) (h:MXL w A n c rs) (hF:FacC rs) (hi1:-9223372036854775808 <= i) (hi2:i <= 9223372036854775807) (hk1:-9223372036854775808 <= k) (hk2:k <= 9223372036854775807) (hS:Zar rs=0->∀ a b,SmN 5 5 (Zg (qM rs) a b)) :
    Calls Tryz.prog 14 #[.slice A n c,.int .i64 i,.int .i64 k] w (FracPost (Zol rs i k) (corV rs i k) w):=by
 have hmx:Tryz.prog.follows .mixedOrders=true:=by kernel_rfl
 have hnl:=Za h.1;have hnc:=h.2.1;have hcm:=h.2.2.1;unfold maxLen at hcm;obtain ⟨W0,hW0,hB0,⟨q0,q1⟩,s0⟩:=Zc7 w 29 #[.bool false,.slice none 0 0,.bool false,.slice none 0 0] 30 #[.int .i64 0];have hC:=Za (Zim A n c rs W0 (h.below hB0) hF);have hH:=Za (h.below hB0);replace hS:=Za hS;replace q0:=Za q0;replace q1:=Za q1;replace hB0:=Za hB0;clear h hF;replace s0:=Za s0;obtain ⟨mi,hmi⟩:∃ z,min i k=z:=⟨_,rfl⟩;obtain ⟨ma,hma⟩:∃ z,max i k=z:=⟨_,rfl⟩;have hmi2:=Za hmi;have hma2:=Za hma;clear hmi hma
 go_enter_defers Tryz.func14,Tryz.ntmps14
 go_wp2_with fail;(try rw [hW0]);clear hW0;refine hC.out.mono ?_;rintro e w1 ⟨hb1,⟨h0,v1,v2,L0,rfl,hFM⟩ | ⟨h0,rfl⟩⟩
 case inr =>
  have hB1:=hB0.out.trans (hb1.mono hB0.out.size);have k0:=Zc hb1 q0.out;have k1:=Zc hb1 q1.out;obtain ⟨E,hE⟩:∃ E,Zar rs=E:=⟨_,rfl⟩;rw [hE] at h0 ⊢;have hE0:=Za h0;have hPE:=Za (Zog (i:=i) (k:=k) hE h0);replace hE:=Za hE;go_wp2_with fail;refine leaves_cons (f:=52) (args:=#[.pointer (some ⟨w.heap.size+1,0,none⟩)]) (by simp) (by simp [go_sem]) ?_;have e0:=(k1).cell 0
  simp at e0
  refine (Zb7 ⟨w.heap.size+1,0,none⟩ E 0 _ e0 ((k1).frozen 0)).mono ?_;rintro e u' w'' ⟨rfl,rfl,hw⟩;obtain ⟨V,hV,hBV,-,-,hk,sV⟩:=Z5 154 #[.int .i64 E] (hB1) ((hB1).size);obtain ⟨U,hU,hBU,q3,-,kq,-⟩:=Zbu E hBV (Nat.le_succ _) (hk _ _ _ (k1));rw [hV,hU] at hw;subst hw;have r4:=q3.cell 0
  simp at r4
  obtain ⟨d0,d1,d2,d3,-⟩:=(kq _ _ _ (by omega) (hk _ _ _ (k0))).four;exact ⟨.tuple #[.agg #[.bool false,.slice none 0 0,.bool false,.slice none 0 0],.int .i64 E],by simp [results,Tryz.results14,go_sem,r4,d0,d1,d2,d3],FracPost.fall hBU hPE.out (by first | decide | assumption | exact hE0.out)⟩
 have hSS:=Za (hS.out h0);obtain ⟨hcV,hcS,hcP⟩:=Zdx h0
 have hn6:n <= 6:=by rw [<- hnl.out];exact hcV.facts.2.1
 have hrow:=hcV.row hH.out;have hM:=Za ((hcV.good hH.out).below hb1);have hB1:=Za (hB0.out.trans (hb1.mono hB0.out.size));replace q0:=Za (Zc hb1 q0.out);replace q1:=Za (Zc hb1 q1.out);replace h0:=Za h0;replace hrow:=Za hrow;clear hFM hcV hcS hcP hC hH hB0 hb1 L0 hS;have hmi:=hmi2.out;have hma:=hma2.out
 by_cases hb0:0 <= mi
 case neg =>
  have t1:decide (0 <= mi)=false:=decide_eq_false hb0;have hPE:=Za (Ze0 (i:=i) (k:=k) h0.out (fun hh=>hb0 (by omega)));replace hb0:=Za hb0;go_wp2_with fail;refine (Zbl 8 w1).mono ?_;rintro e w6 ⟨rfl,rfl⟩;go_wp2_with fail;refine leaves_cons (f:=52) (args:=#[.pointer (some ⟨w.heap.size+1,0,none⟩)]) (by simp) (by simp [go_sem]) ?_;have e0:=(q1.out).cell 0
  simp at e0
  refine (Zb7 ⟨w.heap.size+1,0,none⟩ 8 0 _ e0 ((q1.out).frozen 0)).mono ?_;rintro e u' w'' ⟨rfl,rfl,hw⟩;obtain ⟨V,hV,hBV,-,-,hk,sV⟩:=Z5 154 #[.int .i64 8] (hB1.out) ((hB1.out).size);obtain ⟨U,hU,hBU,q3,-,kq,-⟩:=Zbu 8 hBV (Nat.le_succ _) (hk _ _ _ (q1.out));rw [hV,hU] at hw;subst hw;have r4:=q3.cell 0
  simp at r4
  obtain ⟨d0,d1,d2,d3,-⟩:=(kq _ _ _ (by omega) (hk _ _ _ (q0.out))).four;exact ⟨.tuple #[.agg #[.bool false,.slice none 0 0,.bool false,.slice none 0 0],.int .i64 8],by simp [results,Tryz.results14,go_sem,r4,d0,d1,d2,d3],FracPost.fall hBU hPE.out (by first | decide | assumption | exact hE0.out)⟩
 by_cases hbn:ma < (n:Int)
 case neg =>
  have t1:decide (0 <= mi)=true:=decide_eq_true hb0;have t2:decide (ma < (n:Int))=false:=decide_eq_false hbn;have hPE:=Za (Ze0 (i:=i) (k:=k) h0.out (fun hh=>hbn (by rw [hnl.out] at hh;omega)));replace hb0:=Za hb0;replace hbn:=Za hbn;go_wp2_with fail;refine (Zbl 8 w1).mono ?_;rintro e w6 ⟨rfl,rfl⟩;go_wp2_with fail;refine leaves_cons (f:=52) (args:=#[.pointer (some ⟨w.heap.size+1,0,none⟩)]) (by simp) (by simp [go_sem]) ?_;have e0:=(q1.out).cell 0
  simp at e0
  refine (Zb7 ⟨w.heap.size+1,0,none⟩ 8 0 _ e0 ((q1.out).frozen 0)).mono ?_;rintro e u' w'' ⟨rfl,rfl,hw⟩;obtain ⟨V,hV,hBV,-,-,hk,sV⟩:=Z5 154 #[.int .i64 8] (hB1.out) ((hB1.out).size);obtain ⟨U,hU,hBU,q3,-,kq,-⟩:=Zbu 8 hBV (Nat.le_succ _) (hk _ _ _ (q1.out));rw [hV,hU] at hw;subst hw;have r4:=q3.cell 0
  simp at r4
  obtain ⟨d0,d1,d2,d3,-⟩:=(kq _ _ _ (by omega) (hk _ _ _ (q0.out))).four;exact ⟨.tuple #[.agg #[.bool false,.slice none 0 0,.bool false,.slice none 0 0],.int .i64 8],by simp [results,Tryz.results14,go_sem,r4,d0,d1,d2,d3],FracPost.fall hBU hPE.out (by first | decide | assumption | exact hE0.out)⟩
 have hPE:=Za (Zqs (i:=i) (k:=k) h0.out (by rw [hnl.out];omega));obtain ⟨I,rfl⟩:∃ I:Nat,i=I:=⟨i.toNat,by omega⟩;obtain ⟨K,rfl⟩:∃ K:Nat,k=K:=⟨k.toNat,by omega⟩
 have hIn:I < n:=by omega
 have hKn:K < n:=by omega
 have t1:decide (0 <= mi)=true:=decide_eq_true hb0;have t2:decide (ma < (n:Int))=true:=decide_eq_true hbn;replace hb0:=Za hb0;replace hbn:=Za hbn
 have bI:(I:Int) < (n:Int):=by omega
 have bK:(K:Int) < (n:Int):=by omega
 obtain ⟨g,o,-,-,-,rfl,-,-⟩:=hM.out.at_ hIn;obtain ⟨gi,oi,ci,rI,hci1,hci2,hEI⟩:=hM.out.ents hrow.out hIn;obtain ⟨gk,ok,ck,rK,hck1,hck2,hEK⟩:=hM.out.ents hrow.out hKn;unfold maxLen at hci2 hck2;obtain ⟨an,aA,ak,ac,am,aB,aj,ad,⟨a0,a1,a2,a3⟩,haf⟩:=hEI K hKn;obtain ⟨bn,bA,bk,bc,bm,bB,bj,bd,⟨b0,b1,b2,b3⟩,hbf⟩:=hEI I hIn;obtain ⟨cn,cA,ck',cc,cm,cB,cj,cd,⟨c0,c1,c2,c3⟩,hcf⟩:=hEK K hKn;have hd1:=Zev h0.out (k:=I) (by rw [hnl.out];exact hIn);have hd2:=Zev h0.out (k:=K) (by rw [hnl.out];exact hKn);obtain ⟨x,hx⟩:∃ x,Zg (qM rs) I K=x:=⟨_,rfl⟩;obtain ⟨y,hy⟩:∃ x,Zg (qM rs) I I=x:=⟨_,rfl⟩;obtain ⟨z,hz⟩:∃ x,Zg (qM rs) K K=x:=⟨_,rfl⟩;have sx:=hSS.out I K;have sy:=hSS.out I I;have sz:=hSS.out K K;rw [hx] at haf sx;rw [hy] at hbf sy hd1;rw [hz] at hcf sz hd2;have hV:Hid (corV rs (I:Int) (K:Int)=x * x / (y * z)):=Za (by unfold corV;rw [Int.toNat_natCast,Int.toNat_natCast,hx,hy,hz])
 have hyz:y * z ≠ 0:=fun e=>absurd (Rat.mul_pos hd1 hd2) (by rw [e];decide)
 have s1:Sm x:=sx.sm (by decide) (by decide);have s2:Sm y:=sy.sm (by decide) (by decide);have s3:Sm z:=sz.sm (by decide) (by decide);have s4:Sm (x * x):=(sx.mulN sx).sm (by decide) (by decide);have s5:Sm (y * z):=(sy.mulN sz).sm (by decide) (by decide);replace hyz:=Za hyz;replace s1:=Za s1;replace s2:=Za s2;replace s3:=Za s3;replace s4:=Za s4;replace s5:=Za s5;clear sx sy sz hx hy hz hd1 hd2 hEI hEK hSS;replace haf:=Za haf;replace hbf:=Za hbf;replace hcf:=Za hcf;go_wp2_with fail;refine (Zcu 8 w1).mono ?_;rintro e w6 ⟨rfl,rfl⟩;clear hM hrow h0 hmi2 hma2 t1 t2 hmi hma;obtain ⟨g1,hg2⟩:∃ g,w6.heap.size=g:=⟨_,rfl⟩;obtain ⟨V3,hV4,q5,hb6⟩:=Zae (w:=w6) 99 #[.bool an,.slice aA ak ac,.bool am,.slice aB aj ad];rw [hg2] at q5;replace q0:=Za (Zc hb6 q0.out);replace q1:=Za (Zc hb6 q1.out);replace haf:=Za (haf.out.below hb6);replace hbf:=Za (hbf.out.below hb6);replace hcf:=Za (hcf.out.below hb6);have hB7:=Za (hB1.out.trans (hb6.mono hB1.out.size));clear hB1;clear hb6;replace q5:=Za q5;have rIz:=Zb (show Below w6.heap.size w6 V3 from by rw [<- hV4];exact (Below.refl _ _).alloc (Nat.le_refl _) _) rI;have rKz:=Zb (show Below w6.heap.size w6 V3 from by rw [<- hV4];exact (Below.refl _ _).alloc (Nat.le_refl _) _) rK;have b0z:=Zb (show Below w6.heap.size w6 V3 from by rw [<- hV4];exact (Below.refl _ _).alloc (Nat.le_refl _) _) b0;have b1z:=Zb (show Below w6.heap.size w6 V3 from by rw [<- hV4];exact (Below.refl _ _).alloc (Nat.le_refl _) _) b1
 have b2z:=Zb (show Below w6.heap.size w6 V3 from by rw [<- hV4];exact (Below.refl _ _).alloc (Nat.le_refl _) _) b2;have b3z:=Zb (show Below w6.heap.size w6 V3 from by rw [<- hV4];exact (Below.refl _ _).alloc (Nat.le_refl _) _) b3;have c0z:=Zb (show Below w6.heap.size w6 V3 from by rw [<- hV4];exact (Below.refl _ _).alloc (Nat.le_refl _) _) c0;have c1z:=Zb (show Below w6.heap.size w6 V3 from by rw [<- hV4];exact (Below.refl _ _).alloc (Nat.le_refl _) _) c1;have c2z:=Zb (show Below w6.heap.size w6 V3 from by rw [<- hV4];exact (Below.refl _ _).alloc (Nat.le_refl _) _) c2;have c3z:=Zb (show Below w6.heap.size w6 V3 from by rw [<- hV4];exact (Below.refl _ _).alloc (Nat.le_refl _) _) c3;go_wp2_with fail;(try rw [hg2]);(try rw [hV4]);clear hV4;replace hg2:=Za hg2;have cc8:V3.cell? ⟨g1,0,none⟩=some (.bool an):=q5.out.cell 0;have cc9:V3.cell? ⟨g1,1,none⟩=some (.slice aA ak ac):=q5.out.cell 1;have cc10:V3.cell? ⟨g1,2,none⟩=some (.bool am):=q5.out.cell 2;have cc11:V3.cell? ⟨g1,3,none⟩=some (.slice aB aj ad):=q5.out.cell 3;clear rI rK a0 a1 a2 a3 b0 b1 b2 b3 c0 c1 c2 c3
 have hSv1:Hid (∀ wx,Below V3.heap.size V3 wx->(wx.cell? ⟨g,o+I,none⟩=some (.slice (some ⟨gi,oi,none⟩) n ci))/\(wx.cell? ⟨g,o+K,none⟩=some (.slice (some ⟨gk,ok,none⟩) n ck))/\(wx.cell? ⟨gi,oi+I * 4,none⟩=some (.bool bn))/\(wx.cell? ⟨gi,oi+I * 4+1,none⟩=some (.slice bA bk bc))/\(wx.cell? ⟨gi,oi+I * 4+2,none⟩=some (.bool bm))/\(wx.cell? ⟨gi,oi+I * 4+3,none⟩=some (.slice bB bj bd))/\(wx.cell? ⟨gk,ok+K * 4,none⟩=some (.bool cn))/\(wx.cell? ⟨gk,ok+K * 4+1,none⟩=some (.slice cA ck' cc))/\(wx.cell? ⟨gk,ok+K * 4+2,none⟩=some (.bool cm))/\(wx.cell? ⟨gk,ok+K * 4+3,none⟩=some (.slice cB cj cd))/\(wx.cell? ⟨g1,0,none⟩=some (.bool an))/\(wx.cell? ⟨g1,1,none⟩=some (.slice aA ak ac))/\(wx.cell? ⟨g1,2,none⟩=some (.bool am))/\(wx.cell? ⟨g1,3,none⟩=some (.slice aB aj ad))):=Za (fun wx hbx=>⟨Zb hbx rIz,Zb hbx rKz,Zb hbx b0z,Zb hbx b1z,Zb hbx b2z,Zb hbx b3z,Zb hbx c0z,Zb hbx c1z,Zb hbx c2z,Zb hbx c3z,Zb hbx cc8,Zb hbx cc9,Zb hbx cc10,Zb hbx cc11⟩);have hr1:Below V3.heap.size V3 V3.drew:=Zi (Below.refl _ _) 1;refine wp_heldS [24,25] hmx hSv1 hr1 (fun hxs1=>?_);refine Zu5 18 [0,1,4,5,6,7,8,9,10,11,12,13,14,15,16,17,18,19] rfl (by kernel_rfl) (hSv1.out _ hr1) ?_
 iterate 18 (refine tk1 (v:=?_) rfl (Or.inl ⟨by kernel_rfl,?_⟩) ?_;rotate_left;(· intro W2 hSw;(try dsimp only at hSw);go_simp;try with_reducible rfl);try simp only [Act.put,putL_a,putL_z,putL_s,putG_a,putG_s,putG_z])
 refine tk0 ?_;refine Zbi [(2,34),(3,35),(20,52),(21,53),(22,54),(23,55)] (fun _=>[]) [(2,34),(3,35),(20,52),(21,53),(22,54),(23,55)] (Zz [(2,fl1V x),(3,frV (x * x)),(20,fl1V z),(21,frV (y * z)),(22,frV (x * x / (y * z))),(23,frV (x * x / (y * z)))]) 2 (by kernel_rfl) (fun p _=>Zce (Zm Zdo (Zm Zal (Zm Zdo (Zm Zal (Zm Zal (Zm Zal Zcy)))))) p.1) (fun wx h=>hSv1.out _ (hr1.trans (h.mono hr1.size))) ?hop1 ?hfin1
 case hop1 =>
  intro p hp;simp only [List.mem_cons,List.not_mem_nil,or_false] at hp;simp only [List.map_cons,List.map_nil,Zam,Act.put,putL_a,putL_z,putL_s]
  rcases hp with rfl | rfl | rfl | rfl | rfl | rfl
  ·intro ν wx hb hP
   have hbx:=hr1.trans (hb.mono hr1.size);refine Zn (i:=2) rfl (fun K hK=>?_);go_simp;exact hK.out _ _ ⟨_,rfl,(by simp only [Zz];exact ⟨_,_,rfl,FL.sing1 (Blk.new _ _ _) ((haf.out.below hbx).below ((Below.refl _ _).alloc (Nat.le_refl _) _))⟩),(Below.refl _ _).alloc (Nat.le_refl _) _,trivial⟩
  ·intro ν wx hb hP
   have hbx:=hr1.trans (hb.mono hr1.size);have h2:=hP (2,34) (by simp) (by kernel_rfl);simp only [Zz] at h2;obtain ⟨u2A,u2c,hν2,u2f⟩:=h2;rw [hν2];refine Zn (i:=3) rfl (fun K hK=>?_);go_simp;refine (Zb4 an aA ak ac am aB aj ad _ u2A 1 u2c [x] wx (haf.out.below hbx) u2f (by decide) (Zde s1.out) (Zd1 s1.out)).mono ?_;rintro e w5 ⟨hb5,fn,fA,fk,fc,fm,fB,fj,fd,rfl,hf5⟩;rw [Zfn] at hf5;exact hK.out _ _ ⟨_,rfl,(by simp only [Zz];exact ⟨_,_,_,_,_,_,_,_,rfl,hf5⟩),hb5,trivial⟩
  ·intro ν wx hb hP
   have hbx:=hr1.trans (hb.mono hr1.size);refine Zn (i:=20) rfl (fun K hK=>?_);go_simp;exact hK.out _ _ ⟨_,rfl,(by simp only [Zz];exact ⟨_,_,rfl,FL.sing1 (Blk.new _ _ _) ((hcf.out.below hbx).below ((Below.refl _ _).alloc (Nat.le_refl _) _))⟩),(Below.refl _ _).alloc (Nat.le_refl _) _,trivial⟩
  ·intro ν wx hb hP
   have hbx:=hr1.trans (hb.mono hr1.size);have h20:=hP (20,52) (by simp) (by kernel_rfl);simp only [Zz] at h20;obtain ⟨u20A,u20c,hν20,u20f⟩:=h20;rw [hν20];refine Zn (i:=21) rfl (fun K hK=>?_);go_simp;refine (Zb4 bn bA bk bc bm bB bj bd _ u20A 1 u20c [z] wx (hbf.out.below hbx) u20f (by decide) (Zde s2.out) (Zd1 s3.out)).mono ?_;rintro e w5 ⟨hb5,fn,fA,fk,fc,fm,fB,fj,fd,rfl,hf5⟩;rw [Zfn] at hf5;exact hK.out _ _ ⟨_,rfl,(by simp only [Zz];exact ⟨_,_,_,_,_,_,_,_,rfl,hf5⟩),hb5,trivial⟩
  ·intro ν wx hb hP
   have hbx:=hr1.trans (hb.mono hr1.size);have h3:=hP (3,35) (by simp) (by kernel_rfl);simp only [Zz] at h3;obtain ⟨u3n,u3A,u3k,u3c,u3m,u3B,u3j,u3d,hν3,u3f⟩:=h3;rw [hν3];have h21:=hP (21,53) (by simp) (by kernel_rfl);simp only [Zz] at h21;obtain ⟨u21n,u21A,u21k,u21c,u21m,u21B,u21j,u21d,hν21,u21f⟩:=h21;rw [hν21];refine Zn (i:=22) rfl (fun K hK=>?_);go_simp;refine (Zj9 u3n u3m u21n u21m u3A u3B u21A u21B u3k u3c u3j u3d u21k u21c u21j u21d _ _ wx u3f u21f s4.out s5.out hyz.out).mono ?_;rintro e w5 ⟨hb5,fn,fA,fk,fc,fm,fB,fj,fd,rfl,hf5⟩;exact hK.out _ _ ⟨_,rfl,(by simp only [Zz];exact ⟨_,_,_,_,_,_,_,_,rfl,hf5⟩),hb5,trivial⟩
  ·intro ν wx hb hP
   have hbx:=hr1.trans (hb.mono hr1.size);have h22:=hP (22,54) (by simp) (by kernel_rfl);simp only [Zz] at h22;obtain ⟨u22n,u22A,u22k,u22c,u22m,u22B,u22j,u22d,hν22,u22f⟩:=h22;rw [hν22];refine Zn (i:=23) rfl (fun K hK=>?_);go_simp;exact hK.out _ _ ⟨_,rfl,(by simp only [Zz];exact ⟨_,_,_,_,_,_,_,_,rfl,u22f⟩),Below.refl _ _,trivial⟩
 case hfin1 =>
  intro ν wx hb hP;have h2:=hP (2,34) (by simp);simp only [Zz] at h2;obtain ⟨z2A,z2c,hν2,-⟩:=h2;have h3:=hP (3,35) (by simp);simp only [Zz] at h3;obtain ⟨z3n,z3A,z3k,z3c,z3m,z3B,z3j,z3d,hν3,-⟩:=h3;have h20:=hP (20,52) (by simp);simp only [Zz] at h20;obtain ⟨z20A,z20c,hν20,-⟩:=h20;have h21:=hP (21,53) (by simp);simp only [Zz] at h21;obtain ⟨z21n,z21A,z21k,z21c,z21m,z21B,z21j,z21d,hν21,-⟩:=h21;have h22:=hP (22,54) (by simp);simp only [Zz] at h22;obtain ⟨z22n,z22A,z22k,z22c,z22m,z22B,z22j,z22d,hν22,-⟩:=h22;have h23:=hP (23,55) (by simp);simp only [Zz] at h23;obtain ⟨y23n,y23A,y23k,y23c,y23m,y23B,y23j,y23d,hν23,y23f⟩:=h23;simp only [List.map_cons,List.map_nil,Zam,Act.put,putL_a,putL_z,putL_s];rw [hν2,hν3,hν20,hν21,hν22,hν23];clear hν2 hν3 hν20 hν21 hν22 hν23 hP ν;have hbx:=hr1.trans (hb.mono hr1.size);have hbZ12:=hbx;have y23h:=y23f;clear hbx hb hSv1 hxs1 hr1 y23f;replace q0:=Za (Zc hbZ12 q0.out);replace q1:=Za (Zc hbZ12 q1.out);replace haf:=Za (haf.out.below hbZ12);replace hbf:=Za (hbf.out.below hbZ12);replace hcf:=Za (hcf.out.below hbZ12);replace q5:=Za (Zc hbZ12 q5.out);have hB13:=Za (hB7.out.trans (hbZ12.mono hB7.out.size));clear hB7;replace rIz:=Zb hbZ12 rIz;replace rKz:=Zb hbZ12 rKz;replace b0z:=Zb hbZ12 b0z;replace b1z:=Zb hbZ12 b1z;replace b2z:=Zb hbZ12 b2z;replace b3z:=Zb hbZ12 b3z;replace c0z:=Zb hbZ12 c0z;replace c1z:=Zb hbZ12 c1z;replace c2z:=Zb hbZ12 c2z;replace c3z:=Zb hbZ12 c3z;replace cc8:=Zb hbZ12 cc8;replace cc9:=Zb hbZ12 cc9;replace cc10:=Zb hbZ12 cc10
  replace cc11:=Zb hbZ12 cc11;clear hbZ12;clear rIz rKz b0z b1z b2z b3z c0z c1z c2z c3z cc8 cc9 cc10 cc11;replace y23h:=Za y23h;obtain ⟨x0,x1,x2,x3,f0,f1,f2,f3⟩:=q0.out.four;obtain ⟨W5,hW5,hB5,q5,kW,kB,s5'⟩:=Zv y23n y23A y23k y23c y23m y23B y23j y23d hB13.out (Nat.le_refl _) q0.out;have q15:=kB _ _ _ (by omega) q1.out;have df5:Fr W5 y23n y23A y23k y23c y23m y23B y23j y23d (x * x / (y * z)):=Fr.keep y23h.out kW;have e0:=q15.cell 0;have z0:=q15.frozen 0
  simp at e0
  obtain ⟨U,hU,hBU,q3,kW2,kB2,-⟩:=Zbu 0 hB5 (Nat.le_succ _) q15;have r4:=q3.cell 0
  simp at r4
  obtain ⟨y0,y1,y2,y3,-⟩:=(kB2 _ _ _ (by omega) q5).four;have df6:Hid (Fr U y23n y23A y23k y23c y23m y23B y23j y23d (x * x / (y * z))):=Za (Fr.keep df5 kW2);clear kW kB s5' kW2 kB2 df5;refine Zp (i:=24) rfl (by kernel_rfl) (by kernel_rfl) (fun K hK=>?_);go_simp;(try rw [hW5]);refine hK.out _ _ ?_;clear hK K
  try simp only [Act.put,putL_a,putL_z,putL_s,putG_a,putG_s,putG_z]
  refine Zp (i:=25) rfl (by kernel_rfl) (by kernel_rfl) (fun K hK=>?_);go_simp;(try rw [hU]);refine hK.out _ _ ?_;clear hK K
  try simp only [Act.put,putL_a,putL_z,putL_s,putG_a,putG_s,putG_z]
  refine Zj (by kernel_rfl) ?_ _;refine OnlyNormal.normal ?_;go_wp2_with fail;refine leaves_cons (f:=52) (args:=#[.pointer (some ⟨w.heap.size+1,0,none⟩)]) (by simp) (by simp [go_sem]) ?_;refine (Zf6 _ _).mono ?_;rintro e u' w'' ⟨rfl,rfl,rfl⟩;exact ⟨.tuple #[.agg #[.bool y23n,.slice y23A y23k y23c,.bool y23m,.slice y23B y23j y23d],.int .i64 0],by simp [results,Tryz.results14,go_sem,r4,y0,y1,y2,y3],hBU,.inl ⟨hPE.out,_,_,_,_,_,_,_,_,rfl,by rw [hV.out];exact df6.out⟩⟩
def Zfm (sg:Int) (m s:Rat) (z:Int):Bool:=if 0 < sg then decide ((z:Rat) - m <= 0) || decide (((z:Rat) - m) * ((z:Rat) - m) <= s) else decide ((z:Rat) - m <= 0) && decide (s <= ((z:Rat) - m) * ((z:Rat) - m))
theorem Zjw {q:Rat}:Zbo q.num 0 <= 0 ↔ q <= 0:=by
 have h:(0:Rat) < q ↔ 0 < q.num:=⟨fun h=>by
  have h1:q.num ≠ 0:=fun e=>by rw [Rat.num_eq_zero.1 e] at h;exact absurd h (by decide)
  have h2:=Rat.num_nonneg.2 (Rat.le_of_lt h)
  omega,fun h=>by
  have h1:0 <= q:=Rat.num_nonneg.1 (by omega);refine Rat.lt_of_le_of_ne h1 (fun e=>?_)
  rw [<- e] at h;exact absurd h (by decide)⟩
 unfold Zbo;rw [<- Rat.not_lt,h]
 split
 ·constructor <;> intro _ <;> omega
 ·split
  ·constructor <;> intro h1 <;> omega
  ·constructor <;> intro _ <;> omega
theorem Zqf {q:Rat}:0 <= Zbo q.num 0 ↔ 0 <= q:=by
 rw [<- Rat.num_nonneg];unfold Zbo
 split
 ·constructor <;> intro h1 <;> omega
 ·split
  ·constructor <;> intro h1 <;> omega
  ·constructor <;> intro h1 <;> omega
theorem Znk {a b:Rat}:a - b <= 0 ↔ a <= b:=by
 constructor
 ·intro h
  have h2:=Rat.add_le_add_right (c:=b) |>.2 h
  rw [Rat.zero_add] at h2
  have e:a - b+b=a:=by grind
  rw [e] at h2;exact h2
 ·intro h
  have h2:=Rat.add_le_add_right (c:=-b) |>.2 h
  have e:b+-b=0:=by grind
  have e2:a+-b=a - b:=by grind
  rw [e,e2] at h2;exact h2
theorem Znu {a b:Rat}:0 <= a - b ↔ b <= a:=by
 constructor
 ·intro h
  have h2:=Rat.add_le_add_right (c:=b) |>.2 h
  rw [Rat.zero_add] at h2
  have e:a - b+b=a:=by grind
  rw [e] at h2;exact h2
 ·intro h
  have h2:=Rat.add_le_add_right (c:=-b) |>.2 h
  have e:b+-b=0:=by grind
  have e2:a+-b=a - b:=by grind
  rw [e,e2] at h2;exact h2
theorem Zot (wn:Bool) (wA:Option Addr) (wk wc:Nat) (z:Int) (gm gs gp:Nat) (mn:Bool) (mA:Option Addr) (mk mc:Nat) (mm:Bool) (mB:Option Addr) (mj md:Nat) (sn:Bool) (sA:Option Addr) (sk sc:Nat) (sm:Bool) (sB:Option Addr) (sj sd:Nat) (sg:Int) (mq sq:Rat) (w:World) (hz:Wd w wn wA wk wc z) (hm:Blk w gm 99 #[.bool mn,.slice mA mk mc,.bool mm,.slice mB mj md]) (hmf:Fr w mn mA mk mc mm mB mj md mq) (hs:Blk w gs 99 #[.bool sn,.slice sA sk sc,.bool sm,.slice sB sj sd]) (hsf:Fr w sn sA sk sc sm sB sj sd sq) (hp:Blk w gp 3 #[.int .i64 sg])
    (k1:Sm (z:Rat)) (k2:Sm mq) (k3:Sm ((z:Rat) - mq)) (k4:Sm (((z:Rat) - mq) * ((z:Rat) - mq))) (k5:Sm sq) :
    Calls Tryz.prog 125 #[.agg #[.bool wn,.slice wA wk wc],.pointer (some ⟨gm,0,none⟩),.pointer (some ⟨gs,0,none⟩),.pointer (some ⟨gp,0,none⟩)] w fun e w'=>e=.returned (.bool (Zfm sg mq sq z))/\Below w.heap.size w w':=by
 obtain ⟨iN,hi,hz0,hz1,hz2⟩:=info_parts Zl8
 have hmx:Tryz.prog.follows .mixedOrders=true:=by kernel_rfl
 obtain ⟨d,hd⟩:∃ d,(z:Rat) - mq=d:=⟨_,rfl⟩;have hlow:Hid (Zfm sg mq sq z=if 0 < sg then decide (d <= 0) || decide (d * d <= sq) else decide (d <= 0) && decide (sq <= d * d)):=Za (by rw [<- hd];rfl);rw [hd] at k3 k4;replace hd:=Za hd;replace k1:=Za k1;replace k2:=Za k2;replace k3:=Za k3;replace k4:=Za k4;replace k5:=Za k5;obtain ⟨V0,hV0,q4,hb4⟩:=Zae (w:=w) 27 #[.bool wn,.slice wA wk wc];obtain ⟨g4,hg4⟩:∃ g,w.heap.size=g:=⟨_,rfl⟩;rw [hg4] at q4;replace hz:=Za (hz.below hb4);replace hm:=Za (Zc hb4 hm);replace hmf:=Za (hmf.below hb4);replace hs:=Za (Zc hb4 hs);replace hsf:=Za (hsf.below hb4);replace hp:=Za (Zc hb4 hp);replace hb4:=Za hb4;replace q4:=Za q4;go_enter Tryz.func125,Tryz.ntmps125;go_wp2_with fail;(try rw [hV0]);(try rw [hg4]);clear hV0;replace hg4:=Za hg4;have cc1:V0.cell? ⟨g4,0,none⟩=some (.bool wn):=q4.out.cell 0;have cc2:V0.cell? ⟨g4,1,none⟩=some (.slice wA wk wc):=q4.out.cell 1;have hSv1:Hid (∀ wx,Below V0.heap.size V0 wx->(wx.cell? ⟨g4,0,none⟩=some (.bool wn))/\(wx.cell? ⟨g4,1,none⟩=some (.slice wA wk wc))):=Za (fun wx hbx=>⟨Zb hbx cc1,Zb hbx cc2⟩);have hr1:Below V0.heap.size V0 V0.drew:=Zi (Below.refl _ _) 1;refine wp_heldS [] hmx hSv1 hr1 (fun hxs1=>?_);refine Zu5 1 [0] rfl (by kernel_rfl) (hSv1.out _ hr1) ?_
 (refine tk1 (v:=?_) rfl (Or.inl ⟨by kernel_rfl,?_⟩) ?_;rotate_left;(· intro W2 hSw;(try dsimp only at hSw);go_simp;try with_reducible rfl);try simp only [Act.put,putL_a,putL_z,putL_s,putG_a,putG_s,putG_z])
 refine tk0 ?_;refine Zbi [(1,12),(2,13),(3,10),(4,14),(6,6)] (fun i=>match i with | 3=>[5] | _=>[]) [(1,12),(2,13),(3,10),(5,15),(4,14),(6,6)] (Zz [(1,nmT 1),(2,frP (z:Rat)),(3,frP (z:Rat)),(5,isV (.int .i64 0)),(4,frV (z:Rat)),(6,Zm3 V0.heap.size 29 #[.bool false,.slice none 0 0,.bool false,.slice none 0 0])]) 2 (by kernel_rfl) (fun p _=>Zce (Zm Zsa (Zm Zlj (Zm Zlj (Zm Zr0 (Zm Zal (Zm Zcn Zcy)))))) p.1) (fun wx h=>hSv1.out _ (hr1.trans (h.mono hr1.size))) ?hop1 ?hfin1
 case hop1 =>
  intro p hp;simp only [List.mem_cons,List.not_mem_nil,or_false] at hp;simp only [List.map_cons,List.map_nil,Zam,Act.put,putL_a,putL_z,putL_s]
  rcases hp with rfl | rfl | rfl | rfl | rfl
  ·intro ν wx hb hP
   have hbx:=hr1.trans (hb.mono hr1.size);refine Zn (i:=1) rfl (fun K hK=>?_);go_simp;refine (Zeh 1 wx (by decide) (by decide)).mono ?_;rintro e w5 ⟨hb5,n5,A5,c5k,c5,rfl,hf5⟩
   obtain rfl:n5=false:=by rw [hf5.1];decide
   exact hK.out _ _ ⟨_,rfl,(by simp only [Zz];exact ⟨_,_,_,rfl,hf5⟩),hb5,trivial⟩
  ·intro ν wx hb hP
   have hbx:=hr1.trans (hb.mono hr1.size);have h1:=hP (1,12) (by simp) (by kernel_rfl);simp only [Zz] at h1;obtain ⟨u1A,u1k,u1c,hν1,u1f⟩:=h1;rw [hν1];refine Zn (i:=2) rfl (fun K hK=>?_);go_simp;refine (Zo0 wn wA u1A wk wc u1k u1c z 1 wx (hz.out.below hbx) u1f (by decide)).mono ?_;rintro e w5 ⟨hb5,fn,fA,fk,fc,fm,fB,fj,fd,rfl,hf5⟩;rw [Zox] at hf5;exact hK.out _ _ ⟨_,rfl,(by simp only [Zz];exact ⟨_,_,_,_,_,_,_,_,rfl,hf5⟩),hb5,trivial⟩
  ·intro ν wx hb hP
   have hbx:=hr1.trans (hb.mono hr1.size);have h2:=hP (2,13) (by simp) (by kernel_rfl);simp only [Zz] at h2;obtain ⟨u2n,u2A,u2k,u2c,u2m,u2B,u2j,u2d,hν2,u2f⟩:=h2;rw [hν2];refine Zn (i:=3) rfl (fun K hK=>?_);go_simp;refine hK.out _ _ ⟨_,rfl,(by simp only [Zz];exact ⟨_,_,_,_,_,_,_,_,rfl,u2f⟩),Below.refl _ _,?_⟩;exact ⟨_,.int .i64 0,rfl,Or.inl ⟨by kernel_rfl,fun W2 _=>by go_simp⟩,by simp [Zz,isV],trivial⟩
  ·intro ν wx hb hP
   have hbx:=hr1.trans (hb.mono hr1.size);have h3:=hP (3,10) (by simp) (by kernel_rfl);simp only [Zz] at h3;obtain ⟨u3n,u3A,u3k,u3c,u3m,u3B,u3j,u3d,hν3,u3f⟩:=h3;rw [hν3];refine Zn (i:=4) rfl (fun K hK=>?_);go_simp;exact hK.out _ _ ⟨_,rfl,(by simp only [Zz];exact ⟨_,_,_,_,_,_,_,_,rfl,u3f⟩),Below.refl _ _,trivial⟩
  ·intro ν wx hb hP
   have hbx:=hr1.trans (hb.mono hr1.size);refine Zn (i:=6) rfl (fun K hK=>?_);go_simp;exact hK.out _ _ ⟨_,rfl,(by simp only [Zz];exact ⟨_,rfl,hb.size,Blk.new _ _ _⟩),(Below.refl _ _).alloc (Nat.le_refl _) _,trivial⟩
 case hfin1 =>
  intro ν wx hb hP;have h1:=hP (1,12) (by simp);simp only [Zz] at h1;obtain ⟨z1A,z1k,z1c,hν1,-⟩:=h1;have h2:=hP (2,13) (by simp);simp only [Zz] at h2;obtain ⟨z2n,z2A,z2k,z2c,z2m,z2B,z2j,z2d,hν2,-⟩:=h2;have h3:=hP (3,10) (by simp);simp only [Zz] at h3;obtain ⟨z3n,z3A,z3k,z3c,z3m,z3B,z3j,z3d,hν3,-⟩:=h3;have h5:=hP (5,15) (by simp);simp only [Zz] at h5;have hν5:ν 15=_:=h5;clear h5;have h4:=hP (4,14) (by simp);simp only [Zz] at h4;obtain ⟨y4n,y4A,y4k,y4c,y4m,y4B,y4j,y4d,hν4,y4f⟩:=h4;have h6:=hP (6,6) (by simp);simp only [Zz] at h6;obtain ⟨y6g,hν6,y6l,y6q⟩:=h6;simp only [List.map_cons,List.map_nil,Zam,Act.put,putL_a,putL_z,putL_s];rw [hν1,hν2,hν3,hν5,hν4,hν6];clear hν1 hν2 hν3 hν5 hν4 hν6 hP ν;have hbx:=hr1.trans (hb.mono hr1.size);have qv4:=y6q.four;have kv2:V0.heap.size <= y6g:=y6l;refine (Zv y4n y4A y4k y4c y4m y4B y4j y4d hbx kv2 y6q).elim (fun Z1 hq=>?_);have c0:=qv4.1;have c1':=qv4.2.1;have c2':=qv4.2.2.1;have c3:=qv4.2.2.2.1;have f0:=qv4.2.2.2.2.1;have f1:=qv4.2.2.2.2.2.1;have f2:=qv4.2.2.2.2.2.2.1;have f3:=qv4.2.2.2.2.2.2.2;have hZ:=hq.1;refine Ze (i:=7) rfl (by kernel_rfl) (fun K hK=>?_);go_simp;(try rw [hZ]);refine hK.out _ _ (fun _=>hSv1.out _ hq.2.1) ?_;clear hK K
  try simp only [Act.put,putL_a,putL_z,putL_s,putG_a,putG_s,putG_z]
  refine Zu4 1 [8] rfl (by kernel_rfl) (hSv1.out _ hq.2.1) ?_
  (refine tk1 (v:=?_) rfl (Or.inl ⟨by kernel_rfl,?_⟩) ?_;rotate_left;(· intro W2 _;go_simp;try with_reducible rfl);try simp only [Act.put,putL_a,putL_z,putL_s,putG_a,putG_s,putG_z])
  refine tk0 ?_;refine Zj (by kernel_rfl) ?_ _;refine OnlyNormal.normal ?_;have hbZ3:=hq.2.1;have y4b:=hq.2.2.1;have y4h:=Fr.keep y4f hq.2.2.2.1;have y6gle:=Za kv2;clear hq hZ c0 c1' c2' c3 f0 f1 f2 f3 qv4 y6q y6l kv2 hbx hb hr1 hSv1 hxs1 y4f;replace hz:=Za (hz.out.below hbZ3);replace hm:=Za (Zc hbZ3 hm.out);replace hmf:=Za (hmf.out.below hbZ3);replace hs:=Za (Zc hbZ3 hs.out);replace hsf:=Za (hsf.out.below hbZ3);replace hp:=Za (Zc hbZ3 hp.out);replace q4:=Za (Zc hbZ3 q4.out);have hB4:=Za (hb4.out.trans (hbZ3.mono hb4.out.size));clear hb4;replace cc1:=Zb hbZ3 cc1;replace cc2:=Zb hbZ3 cc2;clear hbZ3;clear cc1 cc2;replace y4b:=Za y4b;replace y4h:=Za y4h;go_wp2_with fail;have cc5:Z1.cell? ⟨y6g,0,none⟩=some (.bool y4n):=y4b.out.cell 0;have cc6:Z1.cell? ⟨y6g,1,none⟩=some (.slice y4A y4k y4c):=y4b.out.cell 1;have cc7:Z1.cell? ⟨y6g,2,none⟩=some (.bool y4m):=y4b.out.cell 2;have cc8:Z1.cell? ⟨y6g,3,none⟩=some (.slice y4B y4j y4d):=y4b.out.cell 3;have cc9:Z1.cell? ⟨gm,0,none⟩=some (.bool mn):=hm.out.cell 0;have cc10:Z1.cell? ⟨gm,1,none⟩=some (.slice mA mk mc):=hm.out.cell 1;have cc11:Z1.cell? ⟨gm,2,none⟩=some (.bool mm):=hm.out.cell 2;have cc12:Z1.cell? ⟨gm,3,none⟩=some (.slice mB mj md):=hm.out.cell 3
  have hSv2:Hid (∀ wx,Below Z1.heap.size Z1 wx->(wx.cell? ⟨y6g,0,none⟩=some (.bool y4n))/\(wx.cell? ⟨y6g,1,none⟩=some (.slice y4A y4k y4c))/\(wx.cell? ⟨y6g,2,none⟩=some (.bool y4m))/\(wx.cell? ⟨y6g,3,none⟩=some (.slice y4B y4j y4d))/\(wx.cell? ⟨gm,0,none⟩=some (.bool mn))/\(wx.cell? ⟨gm,1,none⟩=some (.slice mA mk mc))/\(wx.cell? ⟨gm,2,none⟩=some (.bool mm))/\(wx.cell? ⟨gm,3,none⟩=some (.slice mB mj md))):=Za (fun wx hbx=>⟨Zb hbx cc5,Zb hbx cc6,Zb hbx cc7,Zb hbx cc8,Zb hbx cc9,Zb hbx cc10,Zb hbx cc11,Zb hbx cc12⟩);have hr2:Below Z1.heap.size Z1 Z1.drew:=Zi (Below.refl _ _) 1;refine wp_heldS [] hmx hSv2 hr2 (fun hxs2=>?_);refine Zu5 3 [0,1,3] rfl (by kernel_rfl) (hSv2.out _ hr2) ?_
  iterate 3 (refine tk1 (v:=?_) rfl (Or.inl ⟨by kernel_rfl,?_⟩) ?_;rotate_left;(· intro W2 hSw;(try dsimp only at hSw);go_simp;try with_reducible rfl);try simp only [Act.put,putL_a,putL_z,putL_s,putG_a,putG_s,putG_z])
  refine tk0 ?_;refine Zbi [(2,18),(4,20),(5,8)] (fun _=>[]) [(2,18),(4,20),(5,8)] (Zz [(2,frV (z:Rat)),(4,frV d),(5,Zm3 Z1.heap.size 99 #[.bool false,.slice none 0 0,.bool false,.slice none 0 0])]) 1 (by kernel_rfl) (fun p _=>Zce (Zm Zal (Zm Zal (Zm Zcn Zcy))) p.1) (fun wx h=>hSv2.out _ (hr2.trans (h.mono hr2.size))) ?hop2 ?hfin2
  case hop2 =>
   intro p hp;simp only [List.mem_cons,List.not_mem_nil,or_false] at hp;simp only [List.map_cons,List.map_nil,Zam,Act.put,putL_a,putL_z,putL_s]
   rcases hp with rfl | rfl | rfl
   ·intro ν wx hb hP
    have hbx:=hr2.trans (hb.mono hr2.size);refine Zn (i:=2) rfl (fun K hK=>?_);go_simp;refine (Zew y4n y4m y4A y4B y4k y4c y4j y4d _ wx (y4h.out.below hbx)).mono ?_;rintro e w5 ⟨hb5,fn,fA,fk,fc,fm,fB,fj,fd,rfl,hf5⟩;exact hK.out _ _ ⟨_,rfl,(by simp only [Zz];exact ⟨_,_,_,_,_,_,_,_,rfl,hf5⟩),hb5,trivial⟩
   ·intro ν wx hb hP
    have hbx:=hr2.trans (hb.mono hr2.size);have h2:=hP (2,18) (by simp) (by kernel_rfl);simp only [Zz] at h2;obtain ⟨u2n,u2A,u2k,u2c,u2m,u2B,u2j,u2d,hν2,u2f⟩:=h2;rw [hν2];refine Zn (i:=4) rfl (fun K hK=>?_);go_simp;refine (Zd2 u2n u2m mn mm u2A u2B mA mB u2k u2c u2j u2d mk mc mj md _ _ wx u2f (hmf.out.below hbx) k1.out k2.out).mono ?_;rintro e w5 ⟨hb5,fn,fA,fk,fc,fm,fB,fj,fd,rfl,hf5⟩;rw [hd.out] at hf5;exact hK.out _ _ ⟨_,rfl,(by simp only [Zz];exact ⟨_,_,_,_,_,_,_,_,rfl,hf5⟩),hb5,trivial⟩
   ·intro ν wx hb hP
    have hbx:=hr2.trans (hb.mono hr2.size);refine Zn (i:=5) rfl (fun K hK=>?_);go_simp;exact hK.out _ _ ⟨_,rfl,(by simp only [Zz];exact ⟨_,rfl,hb.size,Blk.new _ _ _⟩),(Below.refl _ _).alloc (Nat.le_refl _) _,trivial⟩
  case hfin2 =>
   intro ν wx hb hP;have h2:=hP (2,18) (by simp);simp only [Zz] at h2;obtain ⟨z2n,z2A,z2k,z2c,z2m,z2B,z2j,z2d,hν2,-⟩:=h2;have h4:=hP (4,20) (by simp);simp only [Zz] at h4;obtain ⟨x4n,x4A,x4k,x4c,x4m,x4B,x4j,x4d,hν4,x4f⟩:=h4;have h5:=hP (5,8) (by simp);simp only [Zz] at h5;obtain ⟨x5g,hν5,x5l,x5q⟩:=h5;simp only [List.map_cons,List.map_nil,Zam,Act.put,putL_a,putL_z,putL_s];rw [hν2,hν4,hν5];clear hν2 hν4 hν5 hP ν;have hbx:=hr2.trans (hb.mono hr2.size);have qv4:=x5q.four;have kv2:Z1.heap.size <= x5g:=x5l;refine (Zv x4n x4A x4k x4c x4m x4B x4j x4d hbx kv2 x5q).elim (fun Z2 hq=>?_);have c0:=qv4.1;have c1':=qv4.2.1;have c2':=qv4.2.2.1;have c3:=qv4.2.2.2.1;have f0:=qv4.2.2.2.2.1;have f1:=qv4.2.2.2.2.2.1;have f2:=qv4.2.2.2.2.2.2.1;have f3:=qv4.2.2.2.2.2.2.2;have hZ:=hq.1;refine Ze (i:=6) rfl (by kernel_rfl) (fun K hK=>?_);go_simp;(try rw [hZ]);refine hK.out _ _ (fun _=>hSv2.out _ hq.2.1) ?_;clear hK K
   try simp only [Act.put,putL_a,putL_z,putL_s,putG_a,putG_s,putG_z]
   refine Zj (by kernel_rfl) ?_ _;refine OnlyNormal.normal ?_;have hbZ13:=hq.2.1;have x4b:=hq.2.2.1;have x4h:=Fr.keep x4f hq.2.2.2.1;have x5gle:=Za kv2;clear hq hZ c0 c1' c2' c3 f0 f1 f2 f3 qv4 x5q x5l kv2 hbx hb hr2 hSv2 hxs2 x4f;replace hz:=Za (hz.out.below hbZ13);replace hm:=Za (Zc hbZ13 hm.out);replace hmf:=Za (hmf.out.below hbZ13);replace hs:=Za (Zc hbZ13 hs.out);replace hsf:=Za (hsf.out.below hbZ13);replace hp:=Za (Zc hbZ13 hp.out);replace q4:=Za (Zc hbZ13 q4.out);replace y4b:=Za (Zc hbZ13 y4b.out);replace y4h:=Za (y4h.out.below hbZ13);have hB14:=Za (hB4.out.trans (hbZ13.mono hB4.out.size));clear hB4;replace cc5:=Zb hbZ13 cc5;replace cc6:=Zb hbZ13 cc6;replace cc7:=Zb hbZ13 cc7;replace cc8:=Zb hbZ13 cc8;replace cc9:=Zb hbZ13 cc9;replace cc10:=Zb hbZ13 cc10;replace cc11:=Zb hbZ13 cc11;replace cc12:=Zb hbZ13 cc12;clear hbZ13;clear cc5 cc6 cc7 cc8 cc9 cc10 cc11 cc12;replace x4b:=Za x4b;replace x4h:=Za x4h;clear y4h y4b hz k1 k2;go_wp2_with fail;have cc15:Z2.cell? ⟨x5g,0,none⟩=some (.bool x4n):=x4b.out.cell 0;have cc16:Z2.cell? ⟨x5g,1,none⟩=some (.slice x4A x4k x4c):=x4b.out.cell 1;have cc17:Z2.cell? ⟨x5g,2,none⟩=some (.bool x4m):=x4b.out.cell 2;have cc18:Z2.cell? ⟨x5g,3,none⟩=some (.slice x4B x4j x4d):=x4b.out.cell 3;have cc19:Z2.cell? ⟨gs,0,none⟩=some (.bool sn):=hs.out.cell 0;have cc20:Z2.cell? ⟨gs,1,none⟩=some (.slice sA sk sc):=hs.out.cell 1;have cc21:Z2.cell? ⟨gs,2,none⟩=some (.bool sm):=hs.out.cell 2
   have cc22:Z2.cell? ⟨gs,3,none⟩=some (.slice sB sj sd):=hs.out.cell 3;have hr23:Below Z2.heap.size Z2 Z2.drew:=Zi (Below.refl _ _) 1;replace hm:=Za (Zc hr23 hm.out);replace hmf:=Za (hmf.out.below hr23);replace hs:=Za (Zc hr23 hs.out);replace hsf:=Za (hsf.out.below hr23);replace hp:=Za (Zc hr23 hp.out);replace q4:=Za (Zc hr23 q4.out);replace x4b:=Za (Zc hr23 x4b.out);replace x4h:=Za (x4h.out.below hr23);have hB24:=Za (hB14.out.trans (hr23.mono hB14.out.size));clear hB14;replace cc15:=Zb hr23 cc15;replace cc16:=Zb hr23 cc16;replace cc17:=Zb hr23 cc17;replace cc18:=Zb hr23 cc18;replace cc19:=Zb hr23 cc19;replace cc20:=Zb hr23 cc20;replace cc21:=Zb hr23 cc21;replace cc22:=Zb hr23 cc22;clear hr23;refine Z8 [] (fun wx=>(wx.cell? ⟨x5g,0,none⟩=some (.bool x4n))/\(wx.cell? ⟨x5g,1,none⟩=some (.slice x4A x4k x4c))/\(wx.cell? ⟨x5g,2,none⟩=some (.bool x4m))/\(wx.cell? ⟨x5g,3,none⟩=some (.slice x4B x4j x4d))/\(wx.cell? ⟨gs,0,none⟩=some (.bool sn))/\(wx.cell? ⟨gs,1,none⟩=some (.slice sA sk sc))/\(wx.cell? ⟨gs,2,none⟩=some (.bool sm))/\(wx.cell? ⟨gs,3,none⟩=some (.slice sB sj sd))) hmx ⟨cc15,cc16,cc17,cc18,cc19,cc20,cc21,cc22⟩ (fun _=>?_);refine Zd (i:=0) (v:=?vt1) rfl (by kernel_rfl) (by kernel_rfl) (by kernel_rfl) (by kernel_rfl) (by kernel_rfl) (Or.inl ⟨by kernel_rfl,?hyt1⟩) ⟨cc15,cc16,cc17,cc18,cc19,cc20,cc21,cc22⟩ ?rt1
   case hyt1=>(intro W2 hSw;(try dsimp only at hSw);go_simp;try with_reducible rfl)
   try simp only [Act.put,putL_a,putL_z,putL_s,putG_a,putG_s,putG_z]
   refine Zd (i:=1) (v:=?vt2) rfl (by kernel_rfl) (by kernel_rfl) (by kernel_rfl) (by kernel_rfl) (by kernel_rfl) (Or.inl ⟨by kernel_rfl,?hyt2⟩) ⟨cc15,cc16,cc17,cc18,cc19,cc20,cc21,cc22⟩ ?rt2
   case hyt2=>(intro W2 hSw;(try dsimp only at hSw);go_simp;try with_reducible rfl)
   try simp only [Act.put,putL_a,putL_z,putL_s,putG_a,putG_s,putG_z]
   refine Zd (i:=4) (v:=?vt3) rfl (by kernel_rfl) (by kernel_rfl) (by kernel_rfl) (by kernel_rfl) (by kernel_rfl) (Or.inl ⟨by kernel_rfl,?hyt3⟩) ⟨cc15,cc16,cc17,cc18,cc19,cc20,cc21,cc22⟩ ?rt3
   case hyt3=>(intro W2 hSw;(try dsimp only at hSw);go_simp;try with_reducible rfl)
   try simp only [Act.put,putL_a,putL_z,putL_s,putG_a,putG_s,putG_z]
   obtain ⟨g25,hg26⟩:∃ g,Z2.drew.heap.size=g:=⟨_,rfl⟩;obtain ⟨V27,hV28,q29,hb30⟩:=Zae (w:=Z2.drew) 99 #[.bool x4n,.slice x4A x4k x4c,.bool x4m,.slice x4B x4j x4d];rw [hg26] at q29;refine Ze (i:=2) rfl (by kernel_rfl) (fun K hK=>?_);go_simp;(try rw [hg26]);(try rw [hV28]);clear hV28;replace hm:=Za (Zc hb30 hm.out);replace hmf:=Za (hmf.out.below hb30);replace hs:=Za (Zc hb30 hs.out);replace hsf:=Za (hsf.out.below hb30);replace hp:=Za (Zc hb30 hp.out);replace q4:=Za (Zc hb30 q4.out);replace x4b:=Za (Zc hb30 x4b.out);replace x4h:=Za (x4h.out.below hb30);have hB31:=Za (hB24.out.trans (hb30.mono hB24.out.size));clear hB24;replace cc15:=Zb hb30 cc15;replace cc16:=Zb hb30 cc16;replace cc17:=Zb hb30 cc17;replace cc18:=Zb hb30 cc18;replace cc19:=Zb hb30 cc19;replace cc20:=Zb hb30 cc20;replace cc21:=Zb hb30 cc21;replace cc22:=Zb hb30 cc22;clear hb30;replace q29:=Za q29;replace hg26:=Za hg26;refine hK.out _ _ (fun _=>⟨cc15,cc16,cc17,cc18,cc19,cc20,cc21,cc22⟩) ?_;clear hK K
   try simp only [Act.put,putL_a,putL_z,putL_s,putG_a,putG_s,putG_z]
   have hFb:=Za (FL.sing1 q29.out x4h.out);refine Ze (i:=3) rfl (by kernel_rfl) (fun K hK=>?_);go_simp;refine (Zb4 x4n x4A x4k x4c x4m x4B x4j x4d _ (some ⟨g25,0,none⟩) 1 1 [d] V27 x4h.out hFb.out (by decide) (Zde k3.out) (Zd1 k3.out)).mono ?_;rintro e w32 ⟨hbP,pn,pA,pk,pc,pm,pB,pj,pd,rfl,pf⟩;replace hm:=Za (Zc hbP hm.out);replace hmf:=Za (hmf.out.below hbP);replace hs:=Za (Zc hbP hs.out);replace hsf:=Za (hsf.out.below hbP);replace hp:=Za (Zc hbP hp.out);replace q4:=Za (Zc hbP q4.out);replace x4b:=Za (Zc hbP x4b.out);replace x4h:=Za (x4h.out.below hbP);replace q29:=Za (Zc hbP q29.out);replace hFb:=Za (hFb.out.below hbP);have hB33:=Za (hB31.out.trans (hbP.mono hB31.out.size));clear hB31;replace cc15:=Zb hbP cc15;replace cc16:=Zb hbP cc16;replace cc17:=Zb hbP cc17;replace cc18:=Zb hbP cc18;replace cc19:=Zb hbP cc19;replace cc20:=Zb hbP cc20;replace cc21:=Zb hbP cc21;replace cc22:=Zb hbP cc22;clear hbP;rw [Zfn] at pf;replace pf:=Za pf;refine hK.out _ _ (fun _=>⟨cc15,cc16,cc17,cc18,cc19,cc20,cc21,cc22⟩) ?_;clear hK K
   try simp only [Act.put,putL_a,putL_z,putL_s,putG_a,putG_s,putG_z]
   refine Ze (i:=5) rfl (by kernel_rfl) (fun K hK=>?_);go_simp;refine (Zd2 pn pm sn sm pA pB sA sB pk pc pj pd sk sc sj sd _ _ w32 pf.out hsf.out k4.out k5.out).mono ?_;rintro e w34 ⟨hbR,rn,rA,rk,rc,rm,rB,rj,rd,rfl,rf⟩;replace hm:=Za (Zc hbR hm.out);replace hmf:=Za (hmf.out.below hbR);replace hs:=Za (Zc hbR hs.out);replace hsf:=Za (hsf.out.below hbR);replace hp:=Za (Zc hbR hp.out);replace q4:=Za (Zc hbR q4.out);replace x4b:=Za (Zc hbR x4b.out);replace x4h:=Za (x4h.out.below hbR);replace q29:=Za (Zc hbR q29.out);replace hFb:=Za (hFb.out.below hbR);replace pf:=Za (pf.out.below hbR);have hB35:=Za (hB33.out.trans (hbR.mono hB33.out.size));clear hB33;replace cc15:=Zb hbR cc15;replace cc16:=Zb hbR cc16;replace cc17:=Zb hbR cc17;replace cc18:=Zb hbR cc18;replace cc19:=Zb hbR cc19;replace cc20:=Zb hbR cc20;replace cc21:=Zb hbR cc21;replace cc22:=Zb hbR cc22;clear hbR;replace rf:=Za rf;refine hK.out _ _ (fun _=>⟨cc15,cc16,cc17,cc18,cc19,cc20,cc21,cc22⟩) ?_;clear hK K
   try simp only [Act.put,putL_a,putL_z,putL_s,putG_a,putG_s,putG_z]
   refine Ze (i:=6) rfl (by kernel_rfl) (fun K hK=>?_);go_simp;refine (Zgc rn rA rk rc rm rB rj rd _ w34 rf.out).mono ?_;rintro e w36 ⟨rfl,hbS⟩;replace hm:=Za (Zc hbS hm.out);replace hmf:=Za (hmf.out.below hbS);replace hs:=Za (Zc hbS hs.out);replace hsf:=Za (hsf.out.below hbS);replace hp:=Za (Zc hbS hp.out);replace q4:=Za (Zc hbS q4.out);replace x4b:=Za (Zc hbS x4b.out);replace x4h:=Za (x4h.out.below hbS);replace q29:=Za (Zc hbS q29.out);replace hFb:=Za (hFb.out.below hbS);replace pf:=Za (pf.out.below hbS);replace rf:=Za (rf.out.below hbS);have hB37:=Za (hB35.out.trans (hbS.mono hB35.out.size));clear hB35;replace cc15:=Zb hbS cc15;replace cc16:=Zb hbS cc16;replace cc17:=Zb hbS cc17;replace cc18:=Zb hbS cc18;replace cc19:=Zb hbS cc19;replace cc20:=Zb hbS cc20;replace cc21:=Zb hbS cc21;replace cc22:=Zb hbS cc22;clear hbS;refine hK.out _ _ (fun _=>⟨cc15,cc16,cc17,cc18,cc19,cc20,cc21,cc22⟩) ?_;clear hK K
   try simp only [Act.put,putL_a,putL_z,putL_s,putG_a,putG_s,putG_z]
   obtain ⟨r2,hr2⟩:∃ r,Zbo (d * d - sq).num 0=r:=⟨_,rfl⟩;rw [hr2];replace hr2:=Za hr2;refine Zd (i:=7) (v:=?vt4) rfl (by kernel_rfl) (by kernel_rfl) (by kernel_rfl) (by kernel_rfl) (by kernel_rfl) (Or.inl ⟨by kernel_rfl,?hyt4⟩) ⟨cc15,cc16,cc17,cc18,cc19,cc20,cc21,cc22⟩ ?rt4
   case hyt4=>(intro W2 hSw;(try dsimp only at hSw);go_simp;try with_reducible rfl)
   try simp only [Act.put,putL_a,putL_z,putL_s,putG_a,putG_s,putG_z]
   refine Zj (by kernel_rfl) ?_ _;refine OnlyNormal.normal ?_;clear cc15 cc16 cc17 cc18 cc19 cc20 cc21 cc22;clear hFb;clear pf;clear rf;clear hs;clear hsf;clear q29;clear k3 k4 k5;have lp:=hp.out.cell 0
   simp at lp
   have hle:Hid (r2 <= 0 ↔ d * d <= sq):=Za (by rw [<- hr2.out,Zjw,Znk]);have hge:Hid (0 <= r2 ↔ sq <= d * d):=Za (by rw [<- hr2.out,Zqf,Znu]);obtain ⟨r1,hr1⟩:∃ r,Zbo d.num 0=r:=⟨_,rfl⟩;have hl1:Hid (r1 <= 0 ↔ d <= 0):=Za (by rw [<- hr1,Zjw]);replace hr1:=Za hr1;have hlow1:=hlow.out;clear hlow;obtain ⟨e0,e1,e2,e3,-⟩:=x4b.out.four
   by_cases hsg:0 < sg
   case pos =>
    have t0:decide (0 < sg)=true:=decide_eq_true hsg;rw [if_pos hsg] at hlow1;replace hlow1:=Za hlow1;replace hsg:=Za hsg;go_wp2_with fail;refine (Zgc x4n x4A x4k x4c x4m x4B x4j x4d _ _ x4h.out).mono ?_;rintro e w9 ⟨rfl,hb9⟩;rw [hr1.out];have hBz:=Za (hB37.out.trans (hb9.mono hB37.out.size));clear hb9 e0 e1 e2 e3
    by_cases h1:r1 <= 0
    ·have t1:decide (r1 <= 0)=true:=decide_eq_true h1
     have hd1:decide (d <= 0)=true:=decide_eq_true (hl1.out.1 h1);replace hd1:=Za hd1;replace h1:=Za h1;have hres:Hid (Zfm sg mq sq z=true):=Za (by rw [hlow1.out,hd1.out];rfl);clear hlow1;go_wp2_with fail;go_ret;exact ⟨by rw [hres.out];rfl,hBz.out⟩
    ·have t1:decide (r1 <= 0)=false:=decide_eq_false h1
     have hd1:decide (d <= 0)=false:=decide_eq_false (fun h=>h1 (hl1.out.2 h));replace hd1:=Za hd1;replace h1:=Za h1
     by_cases h2:r2 <= 0
     ·have t2:decide (r2 <= 0)=true:=decide_eq_true h2
      have hd2:=decide_eq_true (hle.out.1 h2);replace hd2:=Za hd2;replace h2:=Za h2;have hres:Hid (Zfm sg mq sq z=true):=Za (by rw [hlow1.out,hd1.out,hd2.out];rfl);clear hlow1;go_wp2_with fail;go_ret;exact ⟨by rw [hres.out];rfl,hBz.out⟩
     ·have t2:decide (r2 <= 0)=false:=decide_eq_false h2
      have hd2:=decide_eq_false (fun h=>h2 (hle.out.2 h));replace hd2:=Za hd2;replace h2:=Za h2;have hres:Hid (Zfm sg mq sq z=false):=Za (by rw [hlow1.out,hd1.out,hd2.out];rfl);clear hlow1;go_wp2_with fail;go_ret;exact ⟨by rw [hres.out];rfl,hBz.out⟩
   case neg =>
    have t0:decide (0 < sg)=false:=decide_eq_false hsg;rw [if_neg hsg] at hlow1;replace hlow1:=Za hlow1;replace hsg:=Za hsg;go_wp2_with fail;refine (Zgc x4n x4A x4k x4c x4m x4B x4j x4d _ _ x4h.out).mono ?_;rintro e w9 ⟨rfl,hb9⟩;rw [hr1.out];have hBz:=Za (hB37.out.trans (hb9.mono hB37.out.size));clear hb9 e0 e1 e2 e3
    by_cases h1:r1 <= 0
    ·have t1:decide (r1 <= 0)=true:=decide_eq_true h1
     have hd1:decide (d <= 0)=true:=decide_eq_true (hl1.out.1 h1);replace hd1:=Za hd1;replace h1:=Za h1
     by_cases h2:0 <= r2
     ·have t2:decide (0 <= r2)=true:=decide_eq_true h2
      have hd2:=decide_eq_true (hge.out.1 h2);replace hd2:=Za hd2;replace h2:=Za h2;have hres:Hid (Zfm sg mq sq z=true):=Za (by rw [hlow1.out,hd1.out,hd2.out];rfl);clear hlow1;go_wp2_with fail;go_ret;exact ⟨by rw [hres.out];rfl,hBz.out⟩
     ·have t2:decide (0 <= r2)=false:=decide_eq_false h2
      have hd2:=decide_eq_false (fun h=>h2 (hge.out.2 h));replace hd2:=Za hd2;replace h2:=Za h2;have hres:Hid (Zfm sg mq sq z=false):=Za (by rw [hlow1.out,hd1.out,hd2.out];rfl);clear hlow1;go_wp2_with fail;go_ret;exact ⟨by rw [hres.out];rfl,hBz.out⟩
    ·have t1:decide (r1 <= 0)=false:=decide_eq_false h1
     have hd1:decide (d <= 0)=false:=decide_eq_false (fun h=>h1 (hl1.out.2 h));replace hd1:=Za hd1;replace h1:=Za h1;have hres:Hid (Zfm sg mq sq z=false):=Za (by rw [hlow1.out,hd1.out];rfl);clear hlow1;go_wp2_with fail;go_ret;exact ⟨by rw [hres.out];rfl,hBz.out⟩
theorem Zh5 (q:Nat):pw q=2 ^ (32 * q):=by
 induction q with
 | zero=>rw [Zcw]
 | succ q ih=>rw [Zaq,ih,show 32 * (q+1)=32 * q+32 by omega,Nat.pow_add,Nat.mul_comm]
theorem Zrl (q:Nat):val (List.replicate q 0)=0:=by
 induction q with
 | zero=>rfl
 | succ q ih=>rw [List.replicate_succ];simp [val,ih]
theorem Zjj (q:Nat):Lt32 (List.replicate q 0):=fun x hx=>by
 rw [List.eq_of_mem_replicate hx];decide
def BitsN (z:Nat) (b:Nat):Prop:=z < 2 ^ b/\(b=0 ↔ z=0)
theorem Zt4 {u k t b:Nat} (hl:(digits u).length=k+1) (ht:(digits u)[k]?.getD 0=t) (hb:t < 2 ^ b) (ht0:0 < t):BitsN u (32 * k+b):=by
 have h1:=Z7 (digits u) k;rw [Zab (by rw [hl];exact Nat.le_refl _),Zh,ht] at h1
 have h2:val ((digits u).take k) < pw k:=by
  have h:=Zen (l:=(digits u).take k) (fun x hx=>Zf4 u x (List.mem_of_mem_take hx));rw [List.length_take,hl,Nat.min_eq_left (by omega)] at h;exact h
 have h3:u < pw k * 2 ^ b:=by
  have h4:pw k * (t+1) <= pw k * 2 ^ b:=Nat.mul_le_mul_left _ hb;rw [Nat.mul_add] at h4;omega
 refine ⟨by rw [Nat.pow_add,<- Zh5];exact h3,⟨fun h=>?_,fun h=>?_⟩⟩
 ·have:b=0:=by omega
  rw [this] at hb;omega
 ·subst h
  have:(digits 0).length=0:=by rw [Zah];rfl
  omega
theorem Zk6 (a:Int):0 <= a * a:=by
 rcases Int.lt_or_le a 0 with h | h
 ·have:=Int.mul_nonneg (show 0 <= -a by omega) (show 0 <= -a by omega)
  rw [Int.neg_mul_neg] at this;exact this
 ·exact Int.mul_nonneg h h
theorem Zov {a b H:Int} (ha:0 <= a) (h:a+b <= 2 * H):a * b <= H * H:=by
 have h1:a * b <= a * (2 * H - a):=Int.mul_le_mul_of_nonneg_left (by omega) ha;have h2:=Zk6 (H - a)
 have h3:(H - a) * (H - a)=H * H - a * (2 * H - a):=by grind
 omega
theorem Zsf {s x:Nat} (hx:0 < x):s < ((s / x+x) / 2+1) * ((s / x+x) / 2+1):=by
 have h1:s < (s / x+1) * x:=by
  have:=Nat.lt_mul_div_succ s hx;rw [Nat.mul_comm] at this;exact this
 obtain ⟨q,hq⟩:∃ q,s / x=q:=⟨_,rfl⟩;rw [hq] at h1 ⊢;obtain ⟨h,hh⟩:∃ h,(q+x) / 2=h:=⟨_,rfl⟩;rw [hh]
 have h2:q+x <= 2 * h+1:=by omega
 have h3:=Zov (a:=((q+1:Nat):Int)) (b:=(x:Int)) (H:=((h+1:Nat):Int)) (by omega) (by omega)
 have h4:(q+1) * x <= (h+1) * (h+1):=by exact_mod_cast h3
 omega
theorem Zo6 {s x:Nat} (h:x <= (s / x+x) / 2):x * x <= s:=by
 have h1:x <= s / x:=by omega
 have h2:=Nat.div_mul_le_self s x;have h3:x * x <= s / x * x:=Nat.mul_le_mul_right x h1;omega
def IsRoot (s r:Nat):Prop:=r * r <= s/\s < (r+1) * (r+1)
theorem IsRoot.unique {s r t:Nat} (h:IsRoot s r) (k:IsRoot s t):r=t:=by
 obtain ⟨h1,h2⟩:=h;obtain ⟨k1,k2⟩:=k
 rcases Nat.lt_trichotomy r t with h3 | h3 | h3
 ·have:(r+1) * (r+1) <= t * t:=Nat.mul_le_mul h3 h3
  omega
 ·exact h3
 ·have:(t+1) * (t+1) <= r * r:=Nat.mul_le_mul h3 h3
  omega
theorem Znf {s x:Nat} (hs:s < (x+1) * (x+1)) (h:x <= (s / x+x) / 2):IsRoot s x:=⟨Zo6 h,hs⟩
noncomputable def rootN (z:Nat):Nat:=@dite Nat (∃ r,IsRoot z r) (Classical.propDecidable _) (fun h=>Classical.choose h) (fun _=>0)
theorem Zes {z r:Nat} (h:IsRoot z r):rootN z=r:=by
 unfold rootN;rw [@dif_pos _ (Classical.propDecidable _) ⟨r,h⟩];exact (Classical.choose_spec (⟨r,h⟩:∃ r,IsRoot z r)).unique h
theorem Zus {u b:Nat} (h:u < 2 ^ b):u < (2 ^ ((b+1) / 2)+1) * (2 ^ ((b+1) / 2)+1):=by
 have h1:2 ^ b <= 2 ^ ((b+1) / 2+(b+1) / 2):=Nat.pow_le_pow_right (by decide) (by omega);rw [Nat.pow_add] at h1;have h2:2 ^ ((b+1) / 2) * 2 ^ ((b+1) / 2) <= (2 ^ ((b+1) / 2)+1) * (2 ^ ((b+1) / 2)+1):=Nat.mul_le_mul (by omega) (by omega);omega
theorem Zql {m k:Nat} (h:m <= 32 * k):2 ^ m <= pw k:=by
 rw [Zh5];exact Nat.pow_le_pow_right (by decide) h
theorem cmp_geS {a b:Nat}:(0 <= Zbo (a:Int) (b:Int)) ↔ b <= a:=by
 unfold Zbo
 split
 ·constructor <;> intro h <;> omega
 ·split
  ·constructor <;> intro h <;> omega
  ·constructor <;> intro h <;> omega
theorem Zom (A:Option Addr) (n c u:Nat) (w:World) (hz:Wd w false A n c (u:Int)) :
    Calls Tryz.prog 130 #[.agg #[.bool false,.slice A n c],.int .i64 (-1)] w (NumE w ((u / 2:Nat):Int)):=by
 have hn:=hz.2.1;obtain ⟨W0,hW0,hB0,⟨q1,q2⟩,s0⟩:=Zc7 w 27 #[.bool false,.slice A n c] 27 #[.bool false,.slice none 0 0];obtain ⟨Y1,hY1,qz,hbY⟩:=Zae (w:=W0) 27 #[.bool false,.slice A n c]
 have hgood:Hid (okW false (digits u)=true):=by have h:=hz.ok;rw [Int.natAbs_natCast] at h;exact Za h
 have hus:Hid (u < pw 4096):=by
  have h:=hz.lim.len;have h2:=(Zo (u:Int).natAbs 4096).1;rw [Int.natAbs_natCast] at h h2;exact Za (h2 (by omega))
 have hz0:=Za (hz.below hB0)
 have hWL:Hid (WL Y1 (some ⟨W0.heap.size,0,none⟩) 1 1 [⟨false,A,n,c,digits u⟩]):=Za (by
  have h:=hz0.out.lim;rw [Int.natAbs_natCast] at h
  rw [<- hY1];exact WL.one h _)
 obtain ⟨gz,hgz⟩:∃ g,W0.heap.size=g:=⟨_,rfl⟩;rw [hgz] at hWL;obtain ⟨c10,c11,-⟩:=q1.two;replace q1:=Za (Zc hbY q1);replace q2:=Za (Zc hbY q2);replace hz0:=Za (hz0.out.below hbY);have hcm:=hz.lim.2.2.1;have hnc:=hz.lim.2.1;unfold maxLen at hcm;have hBY:=Za (hB0.trans (hbY.mono hB0.size));obtain ⟨d10,d11,-⟩:=q1.out.two;clear hz hbY hB0;replace s0:=Za s0;go_enter Tryz.func130,Tryz.ntmps130;go_wp2_with fail;(try rw [hW0]);(try rw [hgz]);(try rw [hY1]);clear hW0 hY1 hgz qz s0 c10 c11;refine (Zc0 hWL.out (by have:=hgood.out;simp [WE.ok,this])).mono ?_;rintro e w1 ⟨rfl,hb1⟩;replace q1:=Za (Zc hb1 q1.out);replace q2:=Za (Zc hb1 q2.out);replace hz0:=Za (hz0.out.below hb1);have hB2:=Za (hBY.out.trans (hb1.mono hBY.out.size));clear hBY;clear hb1 hWL hgood d10 d11;obtain ⟨d10,d11,-⟩:=q1.out.two;go_wp2_with fail;refine (Zlb A n c 1 _ w1 hz0.out.lim (by decide) (by omega)).mono ?_;rintro e w3 ⟨Ah,nh,ch,oh,bh,rfl,hLh,hhv,hb1⟩;replace q1:=Za (Zc hb1 q1.out);replace q2:=Za (Zc hb1 q2.out);replace hz0:=Za (hz0.out.below hb1);have hB4:=Za (hB2.out.trans (hb1.mono hB2.out.size));clear hB2;clear hb1;rw [Int.natAbs_natCast,Zh] at hhv;have hhc:=hLh.2.1;have hhc2:=hLh.2.2.1;unfold maxLen at hhc2
 have hhy:val oh=u / 2:=by simpa using hhv
 replace hhy:=Za hhy;clear hhv d10 d11;obtain ⟨d10,d11,-⟩:=q1.out.two;replace hLh:=Za hLh;clear hz0;go_wp2_with fail;refine (Zbt false Ah nh ch _ w3 hLh.out).mono ?_;rintro e w5 ⟨hb1,rn,rA,rk,rc,code,rfl,hP⟩;replace q1:=Za (Zc hb1 q1.out);replace q2:=Za (Zc hb1 q2.out);replace hLh:=Za (hLh.out.below hb1);have hB6:=Za (hB4.out.trans (hb1.mono hB4.out.size));clear hB4;clear hb1;rw [hhy.out] at hP
 have hs9:(sg false (u / 2)).natAbs < pw 4096:=by
  show ((u / 2:Nat):Int).natAbs < _;rw [Int.natAbs_natCast];exact Nat.lt_of_le_of_lt (Nat.div_le_self _ _) hus.out
 have hW9:Wd w5 rn rA rk rc ((u / 2:Nat):Int):=hP.small hs9;obtain rfl:code=0:=hP.code0 hs9;obtain ⟨e0,e1,f0,f1⟩:=q2.out.two;clear hP hs9;obtain ⟨U,hU,hBU,q3,kW,-,-⟩:=Zaa rn rA rk rc hB6.out (Nat.le_succ _) q2.out;obtain ⟨r0,r1,-⟩:=q3.two;have hW10:=Za (kW _ _ _ _ _ hW9);clear kW hW9;go_wp2_with fail;(try rw [hU]);refine bodyPost_ret (v:=.tuple #[.agg #[.bool rn,.slice rA rk rc],.int .i64 0]) (by simp [results,Tryz.results130,go_sem,r0,r1]) rfl ?_;exact ⟨hBU,_,_,_,_,rfl,hW10.out⟩
structure EdgeP (sg:Int) (mq sq:Rat) (M:Int):Prop where
 low:∀ z:Int,-1 <= z->(Zfm sg mq sq z=true ↔ z <= M)
 m:-1 <= M
 big:M < ((pw 313:Nat):Int)
 sm:Sm mq
 ss:Sm sq
 z:∀ z:Int,-1 <= z->z <= 2 * M+2->Sm (z:Rat)/\Sm ((z:Rat) - mq)/\Sm (((z:Rat) - mq) * ((z:Rat) - mq))
theorem Zth {M:Int} (h:M < ((pw 313:Nat):Int)) {z:Int} (h1:-1 <= z) (h2:z <= 8 * M+64):z.natAbs < pw 4096:=by
 have h3:pw 314 <= pw 4096:=Zdh (by decide)
 have h4:pw 314=4294967296 * pw 313:=by rw [Zaq]
 have h6:=Zb2 313
 generalize pw 4096=R at *
 generalize pw 314=Q at *
 generalize pw 313=P at *
 omega
theorem cmp_le1 {a b:Int}:Zbo a b <= 0 ↔ a <= b:=by
 unfold Zbo
 split
 ·constructor <;> intro _ <;> omega
 ·split
  ·constructor <;> intro h1 <;> omega
  ·constructor <;> intro _ <;> omega
theorem Zqv (mn:Bool) (mA:Option Addr) (mk mc:Nat) (mm:Bool) (mB:Option Addr) (mj md:Nat) (sn:Bool) (sA:Option Addr) (sk sc:Nat) (sm:Bool) (sB:Option Addr) (sj sd:Nat) (sg:Int) (mq sq:Rat) (M:Int) (w:World) (hmf:Fr w mn mA mk mc mm mB mj md mq) (hsf:Fr w sn sA sk sc sm sB sj sd sq) (hE:EdgeP sg mq sq M) :
    Calls Tryz.prog 68 #[.agg #[.bool mn,.slice mA mk mc,.bool mm,.slice mB mj md],.agg #[.bool sn,.slice sA sk sc,.bool sm,.slice sB sj sd],.int .i64 sg] w (NumW w M):=by
 have hmx:Tryz.prog.follows .mixedOrders=true:=by kernel_rfl
 have hmk:∀ (fn:Fn) (first cap:Array Value) (w:World),(Instr.makeFunc fn first cap).run Tryz.prog w=.ok (.func fn first cap) w:=fun _ _ _ _=>rfl
 have hfit:Hid (∀ z:Int,-1 <= z->z <= 8 * M+64->z.natAbs < pw 4096):=Za (fun z h1 h2=>Zth hE.big h1 h2);have hM0:=hE.m;replace hE:=Za hE;obtain ⟨W0,hW0,hB0,⟨qm,qs,qp,qr⟩,s0⟩:=Ze9 w 99 #[.bool mn,.slice mA mk mc,.bool mm,.slice mB mj md] 99 #[.bool sn,.slice sA sk sc,.bool sm,.slice sB sj sd] 3 #[.int .i64 sg] 27 #[.bool false,.slice none 0 0];replace hmf:=Za (hmf.below hB0);replace hsf:=Za (hsf.below hB0);replace qm:=Za qm;replace qs:=Za qs;replace qp:=Za qp;replace qr:=Za qr;replace hB0:=Za hB0;replace s0:=Za s0;go_enter Tryz.func68,Tryz.ntmps68;go_wp2_with fail;(try rw [hW0]);clear hW0;refine (Zeh (-1) W0 (by decide) (by decide)).mono ?_;rintro e w1 ⟨hb1,ln,lA,lk,lc,rfl,lf⟩;replace hmf:=Za (hmf.out.below hb1);replace hsf:=Za (hsf.out.below hb1);replace qm:=Za (Zc hb1 qm.out);replace qs:=Za (Zc hb1 qs.out);replace qp:=Za (Zc hb1 qp.out);replace qr:=Za (Zc hb1 qr.out);have hB2:=Za (hB0.out.trans (hb1.mono hB0.out.size));clear hB0;clear hb1;replace lf:=Za lf;go_wp2_with fail;refine (Zeh 1 w1 (by decide) (by decide)).mono ?_;rintro e w3 ⟨hb1,tn,tA,tk,tc,rfl,tf⟩;replace hmf:=Za (hmf.out.below hb1);replace hsf:=Za (hsf.out.below hb1);replace qm:=Za (Zc hb1 qm.out);replace qs:=Za (Zc hb1 qs.out);replace qp:=Za (Zc hb1 qp.out);replace qr:=Za (Zc hb1 qr.out);replace lf:=Za (lf.out.below hb1);have hB4:=Za (hB2.out.trans (hb1.mono hB2.out.size));clear hB2;clear hb1;replace tf:=Za tf;have n8:Hid (w.heap.size+1+1+1 < w3.heap.size):=Za qr.out.lt
 obtain ⟨V5,hW2,hb2,⟨q8,q9⟩,s2⟩:=Zc7 w3 27 #[.bool ln,.slice lA lk lc] 27 #[.bool tn,.slice tA tk tc];obtain ⟨g8,hg8⟩:∃ g,w3.heap.size=g:=⟨_,rfl⟩;rw [hg8] at q8 q9 n8;have n9:Hid (g8 < g8+1):=Za (Nat.lt_succ_self _);replace s2:=Za s2;replace hmf:=Za (hmf.out.below hb2);replace hsf:=Za (hsf.out.below hb2);replace qm:=Za (Zc hb2 qm.out);replace qs:=Za (Zc hb2 qs.out);replace qp:=Za (Zc hb2 qp.out);replace qr:=Za (Zc hb2 qr.out);replace lf:=Za (lf.out.below hb2);replace tf:=Za (tf.out.below hb2);have hB6:=Za (hB4.out.trans (hb2.mono hB4.out.size));clear hB4;clear hb2;replace q8:=Za q8;replace q9:=Za q9;obtain ⟨x0,x1,-⟩:=q8.out.two;obtain ⟨u0,u1,-⟩:=q9.out.two;go_wp2_with fail;(try rw [hg8]);(try rw [hW2]);clear hW2;replace hg8:=Za hg8;clear x0 x1 u0 u1;refine (Zkf ln tn lA tA lk lc tk tc (-1) 1 V5 lf.out tf.out).mono ?_;rintro e w7 ⟨hb1,hn,hA,hk,hc,cd,rfl,hP⟩;replace hmf:=Za (hmf.out.below hb1);replace hsf:=Za (hsf.out.below hb1);replace qm:=Za (Zc hb1 qm.out);replace qs:=Za (Zc hb1 qs.out);replace qp:=Za (Zc hb1 qp.out);replace qr:=Za (Zc hb1 qr.out);replace lf:=Za (lf.out.below hb1);replace tf:=Za (tf.out.below hb1);replace q8:=Za (Zc hb1 q8.out);replace q9:=Za (Zc hb1 q9.out);have hB8:=Za (hB6.out.trans (hb1.mono hB6.out.size));clear hB6;clear hb1;have hs9:=hfit.out (-1+1) (by omega) (by omega);have hf:Wd w7 hn hA hk hc (-1+1):=hP.small hs9;obtain rfl:cd=0:=hP.code0 hs9;clear hP hs9;replace hf:=Za hf;have n10:Hid ((g8+1) < w7.heap.size):=Za q9.out.lt
 obtain ⟨g9,hg10⟩:∃ g,w7.heap.size=g:=⟨_,rfl⟩;obtain ⟨V11,hV12,q13,hb14⟩:=Zae (w:=w7) 27 #[.bool hn,.slice hA hk hc];rw [hg10] at q13;replace hmf:=Za (hmf.out.below hb14);replace hsf:=Za (hsf.out.below hb14);replace qm:=Za (Zc hb14 qm.out);replace qs:=Za (Zc hb14 qs.out);replace qp:=Za (Zc hb14 qp.out);replace qr:=Za (Zc hb14 qr.out);replace lf:=Za (lf.out.below hb14);replace tf:=Za (tf.out.below hb14);replace q8:=Za (Zc hb14 q8.out);replace q9:=Za (Zc hb14 q9.out);replace hf:=Za (hf.out.below hb14);have hB15:=Za (hB8.out.trans (hb14.mono hB8.out.size));clear hB8;clear hb14;replace q13:=Za q13;rw [hg10] at n10;go_wp2_with fail;(try rw [hg10]);(try rw [hV12]);clear hV12;replace hg10:=Za hg10
 go_loopg [] (M+1).toNat (fun x wr=>∃ (lo st hi:Int) (ln:Bool) (lA:Option Addr) (lk lc:Nat) (tn:Bool) (tA:Option Addr) (tk tc:Nat) (hn:Bool) (hA:Option Addr) (hk hc:Nat),Hid (x=(M - lo).toNat)/\lo=st - 2/\1 <= st/\hi=lo+st/\lo <= M/\-1 <= lo/\Hid (Blk wr g8 27 #[.bool ln,.slice lA lk lc])/\Hid (Blk wr (g8+1) 27 #[.bool tn,.slice tA tk tc])/\Hid (Blk wr g9 27 #[.bool hn,.slice hA hk hc])/\Hid (Wd wr ln lA lk lc lo)/\Hid (Wd wr tn tA tk tc st)/\Hid (Wd wr hn hA hk hc hi)/\Hid (Blk wr w.heap.size 99 #[.bool mn,.slice mA mk mc,.bool mm,.slice mB mj md])/\Hid (Blk wr (w.heap.size+1) 99 #[.bool sn,.slice sA sk sc,.bool sm,.slice sB sj sd])/\Hid (Blk wr (w.heap.size+1+1) 3 #[.int .i64 sg])/\Hid (Blk wr (w.heap.size+1+1+1) 27 #[.bool false,.slice none 0 0])/\Hid (Fr wr mn mA mk mc mm mB mj md mq)/\Hid (Fr wr sn sA sk sc sm sB sj sd sq)/\Hid (Below w.heap.size w wr))
 case atStart=>exact ⟨-1,1,0,_,_,_,_,_,_,_,_,_,_,_,_,Za (by omega),by omega,by omega,by omega,by omega,by omega,q8,q9,q13,lf,tf,hf,qm,qs,qp,qr,hmf,hsf,hB15⟩
 case round =>
  clear q8 q9 q13 lf tf hf qm qs qp qr hmf hsf hB15;obtain ⟨wi,rfl⟩:∃ x:World,x=wr:=⟨_,rfl⟩;obtain ⟨lo,st,hi,ln,lA,lk,lc,tn,tA,tk,tc,hn,hA,hk,hc,hgk,hlo,hst,hhi,hlM,hl1,q8,q9,q10,lf,tf,hf,qm,qs,qp,qr,hmf,hsf,hBi⟩:=hrel;obtain ⟨y0,y1,-⟩:=q10.out.two;go_wp2_with fail;clear y0 y1;refine (Zot hn hA hk hc (hi) w.heap.size (w.heap.size+1) (w.heap.size+1+1) mn mA mk mc mm mB mj md sn sA sk sc sm sB sj sd sg mq sq wi hf.out qm.out hmf.out qs.out hsf.out qp.out (hE.out.z _ (by omega) (by omega)).1 hE.out.sm (hE.out.z _ (by omega) (by omega)).2.1 (hE.out.z _ (by omega) (by omega)).2.2 hE.out.ss).mono ?_;rintro e w301 ⟨rfl,hb1⟩;replace q8:=Za (Zc hb1 q8.out);replace q9:=Za (Zc hb1 q9.out);replace q10:=Za (Zc hb1 q10.out);replace lf:=Za (lf.out.below hb1);replace tf:=Za (tf.out.below hb1);replace hf:=Za (hf.out.below hb1);replace qm:=Za (Zc hb1 qm.out);replace qs:=Za (Zc hb1 qs.out);replace qp:=Za (Zc hb1 qp.out);replace qr:=Za (Zc hb1 qr.out);replace hmf:=Za (hmf.out.below hb1);replace hsf:=Za (hsf.out.below hb1);have hB302:=Za (hBi.out.trans (hb1.mono hBi.out.size));clear hBi;clear hb1
  by_cases hbe:hi <= M
  case pos =>
   have t1:Zfm sg mq sq hi=true:=(hE.out.low hi (by omega)).2 hbe;rw [t1];clear t1;obtain ⟨x0,x1,-⟩:=q10.out.two;obtain ⟨U303,hU304,hBU305,qn306,kW307,kB308,-⟩:=Zaa hn hA hk hc hB302.out (show w.heap.size <= g8 by have:=n8.out;have:=n9.out;have:=n10.out;omega) q8.out;have q9z:=Za (kB308 _ _ _ (by have:=n8.out;have:=n9.out;have:=n10.out;omega) q9.out);have q10z:=Za (kB308 _ _ _ (by have:=n8.out;have:=n9.out;have:=n10.out;omega) q10.out);have lfz:=Za (kW307 _ _ _ _ _ lf.out);have tfz:=Za (kW307 _ _ _ _ _ tf.out);have hfz:=Za (kW307 _ _ _ _ _ hf.out);have qmz:=Za (kB308 _ _ _ (by have:=n8.out;have:=n9.out;have:=n10.out;omega) qm.out);have qsz:=Za (kB308 _ _ _ (by have:=n8.out;have:=n9.out;have:=n10.out;omega) qs.out);have qpz:=Za (kB308 _ _ _ (by have:=n8.out;have:=n9.out;have:=n10.out;omega) qp.out);have qrz:=Za (kB308 _ _ _ (by have:=n8.out;have:=n9.out;have:=n10.out;omega) qr.out);have hmfz:=Za (Fr.keep hmf.out kW307);have hsfz:=Za (Fr.keep hsf.out kW307);have hB309:=Za hBU305;replace qn306:=Za qn306;obtain ⟨y0,y1,z0,z1⟩:=q8.out.two;obtain ⟨a0,a1,-⟩:=q9z.out.two;go_wp2_with fail;clear x0 x1 a0 a1;(try rw [hU304]);clear hU304 kW307 kB308 hBU305 y0 y1 z0 z1;replace q9:=q9z;clear q9z;replace q10:=q10z;clear q10z;replace lf:=lfz;clear lfz;replace tf:=tfz;clear tfz;replace hf:=hfz;clear hfz;replace qm:=qmz;clear qmz;replace qs:=qsz;clear qsz;replace qp:=qpz;clear qpz;replace qr:=qrz;clear qrz;replace hmf:=hmfz;clear hmfz;replace hsf:=hsfz;clear hsfz;clear q8;have q8:=qn306
   clear qn306 hB302;clear lf;refine (Zkf tn tn tA tA tk tc tk tc st st U303 tf.out tf.out).mono ?_;rintro e w310 ⟨hb1,an,aA,ak,ac,cd,rfl,hP⟩;replace q8:=Za (Zc hb1 q8.out);replace q9:=Za (Zc hb1 q9.out);replace q10:=Za (Zc hb1 q10.out);replace tf:=Za (tf.out.below hb1);replace hf:=Za (hf.out.below hb1);replace qm:=Za (Zc hb1 qm.out);replace qs:=Za (Zc hb1 qs.out);replace qp:=Za (Zc hb1 qp.out);replace qr:=Za (Zc hb1 qr.out);replace hmf:=Za (hmf.out.below hb1);replace hsf:=Za (hsf.out.below hb1);have hB311:=Za (hB309.out.trans (hb1.mono hB309.out.size));clear hB309;clear hb1;have hs9:=hfit.out (st+st) (by omega) (by omega);have af:Wd w310 an aA ak ac (st+st):=hP.small hs9;obtain rfl:cd=0:=hP.code0 hs9;clear hP hs9;replace af:=Za af;obtain ⟨U312,hU313,hBU314,qn315,kW316,kB317,-⟩:=Zaa an aA ak ac hB311.out (show w.heap.size <= (g8+1) by have:=n8.out;have:=n9.out;have:=n10.out;omega) q9.out;have q8z:=Za (kB317 _ _ _ (by have:=n8.out;have:=n9.out;have:=n10.out;omega) q8.out);have q10z:=Za (kB317 _ _ _ (by have:=n8.out;have:=n9.out;have:=n10.out;omega) q10.out);have tfz:=Za (kW316 _ _ _ _ _ tf.out);have hfz:=Za (kW316 _ _ _ _ _ hf.out);have qmz:=Za (kB317 _ _ _ (by have:=n8.out;have:=n9.out;have:=n10.out;omega) qm.out);have qsz:=Za (kB317 _ _ _ (by have:=n8.out;have:=n9.out;have:=n10.out;omega) qs.out);have qpz:=Za (kB317 _ _ _ (by have:=n8.out;have:=n9.out;have:=n10.out;omega) qp.out);have qrz:=Za (kB317 _ _ _ (by have:=n8.out;have:=n9.out;have:=n10.out;omega) qr.out)
   have hmfz:=Za (Fr.keep hmf.out kW316);have hsfz:=Za (Fr.keep hsf.out kW316);have afz:=Za (kW316 _ _ _ _ _ af.out);have hB318:=Za hBU314;replace qn315:=Za qn315;obtain ⟨y0,y1,z0,z1⟩:=q9.out.two;obtain ⟨a0,a1,-⟩:=q8z.out.two;obtain ⟨b0,b1,-⟩:=qn315.out.two;go_wp2_with fail;clear a0 a1 b0 b1;(try rw [hU313]);clear hU313 kW316 kB317 hBU314 y0 y1 z0 z1;replace q8:=q8z;clear q8z;replace q10:=q10z;clear q10z;replace tf:=tfz;clear tfz;replace hf:=hfz;clear hfz;replace qm:=qmz;clear qmz;replace qs:=qsz;clear qsz;replace qp:=qpz;clear qpz;replace qr:=qrz;clear qrz;replace hmf:=hmfz;clear hmfz;replace hsf:=hsfz;clear hsfz;replace af:=afz;clear afz;clear q9;have q9:=qn315;clear qn315 hB311;clear tf;refine (Zkf hn an hA aA hk hc ak ac hi (st+st) U312 hf.out af.out).mono ?_;rintro e w319 ⟨hb1,bn,bA,bk,bc,cd,rfl,hP⟩;replace q8:=Za (Zc hb1 q8.out);replace q9:=Za (Zc hb1 q9.out);replace q10:=Za (Zc hb1 q10.out);replace hf:=Za (hf.out.below hb1);replace qm:=Za (Zc hb1 qm.out);replace qs:=Za (Zc hb1 qs.out);replace qp:=Za (Zc hb1 qp.out);replace qr:=Za (Zc hb1 qr.out);replace hmf:=Za (hmf.out.below hb1);replace hsf:=Za (hsf.out.below hb1);replace af:=Za (af.out.below hb1);have hB320:=Za (hB318.out.trans (hb1.mono hB318.out.size));clear hB318;clear hb1;have hs9:=hfit.out (hi+(st+st)) (by omega) (by omega);have bf:Wd w319 bn bA bk bc (hi+(st+st)):=hP.small hs9;obtain rfl:cd=0:=hP.code0 hs9;clear hP hs9;replace bf:=Za bf
   obtain ⟨U321,hU322,hBU323,qn324,kW325,kB326,-⟩:=Zaa bn bA bk bc hB320.out (show w.heap.size <= g9 by have:=n8.out;have:=n9.out;have:=n10.out;omega) q10.out;have q8z:=Za (kB326 _ _ _ (by have:=n8.out;have:=n9.out;have:=n10.out;omega) q8.out);have q9z:=Za (kB326 _ _ _ (by have:=n8.out;have:=n9.out;have:=n10.out;omega) q9.out);have hfz:=Za (kW325 _ _ _ _ _ hf.out);have qmz:=Za (kB326 _ _ _ (by have:=n8.out;have:=n9.out;have:=n10.out;omega) qm.out);have qsz:=Za (kB326 _ _ _ (by have:=n8.out;have:=n9.out;have:=n10.out;omega) qs.out);have qpz:=Za (kB326 _ _ _ (by have:=n8.out;have:=n9.out;have:=n10.out;omega) qp.out);have qrz:=Za (kB326 _ _ _ (by have:=n8.out;have:=n9.out;have:=n10.out;omega) qr.out);have hmfz:=Za (Fr.keep hmf.out kW325);have hsfz:=Za (Fr.keep hsf.out kW325);have afz:=Za (kW325 _ _ _ _ _ af.out);have bfz:=Za (kW325 _ _ _ _ _ bf.out);have hB327:=Za hBU323;replace qn324:=Za qn324;obtain ⟨y0,y1,z0,z1⟩:=q10.out.two;go_wp2_with fail;(try rw [hU322]);clear hU322 kW325 kB326 hBU323 y0 y1 z0 z1;replace q8:=q8z;clear q8z;replace q9:=q9z;clear q9z;replace hf:=hfz;clear hfz;replace qm:=qmz;clear qmz;replace qs:=qsz;clear qsz;replace qp:=qpz;clear qpz;replace qr:=qrz;clear qrz;replace hmf:=hmfz;clear hmfz;replace hsf:=hsfz;clear hsfz;replace af:=afz;clear afz;replace bf:=bfz;clear bfz;clear q10;have q10:=qn324;clear qn324 hB320
   go_roundg (M - hi).toNat
   case measure=>have:=hgk.out;omega
   case rel=>exact ⟨hi,st+st,hi+(st+st),_,_,_,_,_,_,_,_,_,_,_,_,Za rfl,by omega,by omega,rfl,hbe,by omega,q8,q9,q10,hf,af,bf,qm,qs,qp,qr,hmf,hsf,hB327⟩
  have t1:Zfm sg mq sq hi=false:=by
   cases h9:Zfm sg mq sq hi with
   | false=>rfl
   | true=>exact absurd ((hE.out.low hi (by omega)).1 h9) hbe
  rw [t1];clear t1;go_wp2_with fail;have hn10:Hid (g8 < g9):=Za (by have:=n9.out;have:=n10.out;omega);replace hgk:=Za hgk
  go_loopg [12,13,14,15,16,17] (hi - lo).toNat (fun x v12 v13 v14 v15 v16 v17 wr=>∃ (lo hi:Int) (ln:Bool) (lA:Option Addr) (lk lc:Nat) (hn:Bool) (hA:Option Addr) (hk hc:Nat),Hid (x=(hi - lo).toNat)/\lo <= M/\-1 <= lo/\M < hi/\hi <= 2 * M+2/\Hid (Blk wr g8 27 #[.bool ln,.slice lA lk lc])/\Hid (Blk wr g9 27 #[.bool hn,.slice hA hk hc])/\Hid (Wd wr ln lA lk lc lo)/\Hid (Wd wr hn hA hk hc hi)/\Hid (Blk wr w.heap.size 99 #[.bool mn,.slice mA mk mc,.bool mm,.slice mB mj md])/\Hid (Blk wr (w.heap.size+1) 99 #[.bool sn,.slice sA sk sc,.bool sm,.slice sB sj sd])/\Hid (Blk wr (w.heap.size+1+1) 3 #[.int .i64 sg])/\Hid (Blk wr (w.heap.size+1+1+1) 27 #[.bool false,.slice none 0 0])/\Hid (Fr wr mn mA mk mc mm mB mj md mq)/\Hid (Fr wr sn sA sk sc sm sB sj sd sq)/\Hid (Below w.heap.size w wr))
  case atStart=>exact ⟨lo,hi,_,_,_,_,_,_,_,_,Za rfl,hlM,hl1,by omega,by omega,q8,q10,lf,hf,qm,qs,qp,qr,hmf,hsf,hB302⟩
  case round =>
   clear q8 q9 q10 lf tf hf qm qs qp qr hmf hsf hB302 hgk hlo hst hhi hlM hl1 hbe;obtain ⟨wj,rfl⟩:∃ x:World,x=wr:=⟨_,rfl⟩;obtain ⟨lo,hi,ln,lA,lk,lc,hn,hA,hk,hc,hgk,hlM,hl1,hMh,hhb,q8,q10,lf,hf,qm,qs,qp,qr,hmf,hsf,hBi⟩:=hrel;obtain ⟨x0,x1,-⟩:=q10.out.two;obtain ⟨u0,u1,-⟩:=q8.out.two;go_wp2_with fail;clear x0 x1 u0 u1;refine (Ztv hn ln hA lA hk hc lk lc hi lo wj hf.out lf.out).mono ?_;rintro e w601 ⟨hb1,dn,dA,dk,dc,cd,rfl,hP⟩;replace q8:=Za (Zc hb1 q8.out);replace q10:=Za (Zc hb1 q10.out);replace lf:=Za (lf.out.below hb1);replace hf:=Za (hf.out.below hb1);replace qm:=Za (Zc hb1 qm.out);replace qs:=Za (Zc hb1 qs.out);replace qp:=Za (Zc hb1 qp.out);replace qr:=Za (Zc hb1 qr.out);replace hmf:=Za (hmf.out.below hb1);replace hsf:=Za (hsf.out.below hb1);have hB602:=Za (hBi.out.trans (hb1.mono hBi.out.size));clear hBi;clear hb1;have hs9:=hfit.out (hi - lo) (by omega) (by omega);have df:Wd w601 dn dA dk dc (hi - lo):=hP.small hs9;obtain rfl:cd=0:=hP.code0 hs9;clear hP hs9;replace df:=Za df;have n12:Hid (g9 < w601.heap.size):=Za q10.out.lt;obtain ⟨g603,hg604⟩:∃ g,w601.heap.size=g:=⟨_,rfl⟩;obtain ⟨V605,hV606,q607,hb608⟩:=Zae (w:=w601) 27 #[.bool dn,.slice dA dk dc];rw [hg604] at q607;replace q8:=Za (Zc hb608 q8.out);replace q10:=Za (Zc hb608 q10.out);replace lf:=Za (lf.out.below hb608);replace hf:=Za (hf.out.below hb608);replace qm:=Za (Zc hb608 qm.out);replace qs:=Za (Zc hb608 qs.out);replace qp:=Za (Zc hb608 qp.out);replace qr:=Za (Zc hb608 qr.out)
   replace hmf:=Za (hmf.out.below hb608);replace hsf:=Za (hsf.out.below hb608);replace df:=Za (df.out.below hb608);have hB609:=Za (hB602.out.trans (hb608.mono hB602.out.size));clear hB602;clear hb608;replace q607:=Za q607;rw [hg604] at n12;go_wp2_with fail;(try rw [hg604]);(try rw [hV606]);clear hV606;replace hg604:=Za hg604;have cc610:V605.cell? ⟨g603,0,none⟩=some (.bool dn):=q607.out.cell 0;have cc611:V605.cell? ⟨g603,1,none⟩=some (.slice dA dk dc):=q607.out.cell 1;have hr612:Below V605.heap.size V605 V605.drew:=Zi (Below.refl _ _) 1;replace q8:=Za (Zc hr612 q8.out);replace q10:=Za (Zc hr612 q10.out);replace lf:=Za (lf.out.below hr612);replace hf:=Za (hf.out.below hr612);replace qm:=Za (Zc hr612 qm.out);replace qs:=Za (Zc hr612 qs.out);replace qp:=Za (Zc hr612 qp.out);replace qr:=Za (Zc hr612 qr.out);replace hmf:=Za (hmf.out.below hr612);replace hsf:=Za (hsf.out.below hr612);replace df:=Za (df.out.below hr612);replace q607:=Za (Zc hr612 q607.out);have hB613:=Za (hB609.out.trans (hr612.mono hB609.out.size));clear hB609;replace cc610:=Zb hr612 cc610;replace cc611:=Zb hr612 cc611;clear hr612;refine Z8 [] (fun wx=>(wx.cell? ⟨g603,0,none⟩=some (.bool dn))/\(wx.cell? ⟨g603,1,none⟩=some (.slice dA dk dc))) hmx ⟨cc610,cc611⟩ (fun _=>?_);refine Zd (i:=0) (v:=?vt1) rfl (by kernel_rfl) (by kernel_rfl) (by kernel_rfl) (by kernel_rfl) (by kernel_rfl) (Or.inl ⟨by kernel_rfl,?hyt1⟩) ⟨cc610,cc611⟩ ?rt1
   case hyt1=>(intro W2 hSw;(try dsimp only at hSw);go_simp;try with_reducible rfl)
   try simp only [Act.put,putL_a,putL_z,putL_s,putG_a,putG_s,putG_z]
   refine Ze (i:=1) rfl (by kernel_rfl) (fun K hK=>?_);go_simp;refine (Zeh 1 V605.drew (by decide) (by decide)).mono ?_;rintro e w614 ⟨hbP,on,oA,ok,oc,rfl,of⟩;replace q8:=Za (Zc hbP q8.out);replace q10:=Za (Zc hbP q10.out);replace lf:=Za (lf.out.below hbP);replace hf:=Za (hf.out.below hbP);replace qm:=Za (Zc hbP qm.out);replace qs:=Za (Zc hbP qs.out);replace qp:=Za (Zc hbP qp.out);replace qr:=Za (Zc hbP qr.out);replace hmf:=Za (hmf.out.below hbP);replace hsf:=Za (hsf.out.below hbP);replace df:=Za (df.out.below hbP);replace q607:=Za (Zc hbP q607.out);have hB615:=Za (hB613.out.trans (hbP.mono hB613.out.size));clear hB613;replace cc610:=Zb hbP cc610;replace cc611:=Zb hbP cc611;clear hbP;replace of:=Za of;refine hK.out _ _ (fun _=>⟨cc610,cc611⟩) ?_;clear hK K
   try simp only [Act.put,putL_a,putL_z,putL_s,putG_a,putG_s,putG_z]
   refine Ze (i:=2) rfl (by kernel_rfl) (fun K hK=>?_);go_simp;refine (Znb dn on dA oA dk dc ok oc (hi - lo) 1 w614 df.out of.out).mono ?_;rintro e w616 ⟨rfl,hbS⟩;replace q8:=Za (Zc hbS q8.out);replace q10:=Za (Zc hbS q10.out);replace lf:=Za (lf.out.below hbS);replace hf:=Za (hf.out.below hbS);replace qm:=Za (Zc hbS qm.out);replace qs:=Za (Zc hbS qs.out);replace qp:=Za (Zc hbS qp.out);replace qr:=Za (Zc hbS qr.out);replace hmf:=Za (hmf.out.below hbS);replace hsf:=Za (hsf.out.below hbS);replace df:=Za (df.out.below hbS);replace q607:=Za (Zc hbS q607.out);replace of:=Za (of.out.below hbS);have hB617:=Za (hB615.out.trans (hbS.mono hB615.out.size));clear hB615;replace cc610:=Zb hbS cc610;replace cc611:=Zb hbS cc611;clear hbS;refine hK.out _ _ (fun _=>⟨cc610,cc611⟩) ?_;clear hK K
   try simp only [Act.put,putL_a,putL_z,putL_s,putG_a,putG_s,putG_z]
   obtain ⟨r2,hr2⟩:∃ r,Zbo (hi - lo) 1=r:=⟨_,rfl⟩;rw [hr2];have hr3:Hid (r2 <= 0 ↔ hi - lo <= 1):=Za (by rw [<- hr2];exact cmp_le1);replace hr2:=Za hr2;refine Zd (i:=3) (v:=?vt2) rfl (by kernel_rfl) (by kernel_rfl) (by kernel_rfl) (by kernel_rfl) (by kernel_rfl) (Or.inl ⟨by kernel_rfl,?hyt2⟩) ⟨cc610,cc611⟩ ?rt2
   case hyt2=>(intro W2 hSw;(try dsimp only at hSw);go_simp;try with_reducible rfl)
   try simp only [Act.put,putL_a,putL_z,putL_s,putG_a,putG_s,putG_z]
   refine Zd (i:=4) (v:=?vt3) rfl (by kernel_rfl) (by kernel_rfl) (by kernel_rfl) (by kernel_rfl) (by kernel_rfl) (Or.inl ⟨by kernel_rfl,?hyt3⟩) ⟨cc610,cc611⟩ ?rt3
   case hyt3=>(intro W2 hSw;(try dsimp only at hSw);go_simp;try with_reducible rfl)
   try simp only [Act.put,putL_a,putL_z,putL_s,putG_a,putG_s,putG_z]
   refine Zd (i:=5) (v:=?vt4) rfl (by kernel_rfl) (by kernel_rfl) (by kernel_rfl) (by kernel_rfl) (by kernel_rfl) (Or.inl ⟨by kernel_rfl,?hyt4⟩) ⟨cc610,cc611⟩ ?rt4
   case hyt4=>(intro W2 hSw;(try dsimp only at hSw);go_simp;try with_reducible rfl)
   try simp only [Act.put,putL_a,putL_z,putL_s,putG_a,putG_s,putG_z]
   refine Zd (i:=6) (v:=?vt5) rfl (by kernel_rfl) (by kernel_rfl) (by kernel_rfl) (by kernel_rfl) (by kernel_rfl) (Or.inl ⟨by kernel_rfl,?hyt5⟩) ⟨cc610,cc611⟩ ?rt5
   case hyt5=>(intro W2 hSw;(try dsimp only at hSw);go_simp;try with_reducible rfl)
   try simp only [Act.put,putL_a,putL_z,putL_s,putG_a,putG_s,putG_z]
   refine Zd (i:=7) (v:=?vt6) rfl (by kernel_rfl) (by kernel_rfl) (by kernel_rfl) (by kernel_rfl) (by kernel_rfl) (Or.inl ⟨by kernel_rfl,?hyt6⟩) ⟨cc610,cc611⟩ ?rt6
   case hyt6=>(intro W2 hSw;(try dsimp only at hSw);go_simp;try with_reducible rfl)
   try simp only [Act.put,putL_a,putL_z,putL_s,putG_a,putG_s,putG_z]
   refine Zj (by kernel_rfl) ?_ _;refine OnlyNormal.normal ?_;clear cc610 cc611;clear of
   by_cases hsm:hi - lo <= 1
   case pos =>
    have t1:decide (r2 <= 0)=true:=decide_eq_true (hr3.out.2 hsm)
    obtain rfl:lo=M:=by omega
    obtain ⟨x0,x1,-⟩:=q8.out.two;obtain ⟨y0,y1,z0,z1⟩:=qr.out.two;obtain ⟨U,hU,hBU,q3,kW,-,-⟩:=Zaa ln lA lk lc hB617.out (show w.heap.size <= (w.heap.size+1+1+1) by omega) qr.out;obtain ⟨r0,r1,-⟩:=q3.two;have hW10:=Za (kW _ _ _ _ _ lf.out);clear kW;replace hsm:=Za hsm;go_wp2_with fail;(try rw [hU]);refine bodyPost_ret (v:=.agg #[.bool ln,.slice lA lk lc]) (by simp [results,Tryz.results68,go_sem,r0,r1]) rfl ?_;exact ⟨hBU,_,_,_,_,rfl,hW10.out⟩
   have t1:decide (r2 <= 0)=false:=decide_eq_false (fun h=>hsm (hr3.out.1 h));clear hr3 hr2;obtain ⟨x0,x1,-⟩:=q607.out.two;obtain ⟨D,hD⟩:∃ D:Nat,hi - lo=(D:Int):=⟨(hi - lo).toNat,by omega⟩;rw [hD] at df
   obtain rfl:dn=false:=by rw [df.out.1];exact decide_eq_false (by omega)
   go_wp2_with fail;clear x0 x1;refine (Zom dA dk dc D w616 df.out).mono ?_;rintro e w618 ⟨hb1,en,eA,ek,ec,rfl,ef⟩;replace q8:=Za (Zc hb1 q8.out);replace q10:=Za (Zc hb1 q10.out);replace lf:=Za (lf.out.below hb1);replace hf:=Za (hf.out.below hb1);replace qm:=Za (Zc hb1 qm.out);replace qs:=Za (Zc hb1 qs.out);replace qp:=Za (Zc hb1 qp.out);replace qr:=Za (Zc hb1 qr.out);replace hmf:=Za (hmf.out.below hb1);replace hsf:=Za (hsf.out.below hb1);replace df:=Za (df.out.below hb1);replace q607:=Za (Zc hb1 q607.out);have hB619:=Za (hB617.out.trans (hb1.mono hB617.out.size));clear hB617;clear hb1;have hDe:Hid (hi - lo=(D:Int)):=Za hD;obtain ⟨H,hH⟩:∃ H:Nat,D / 2=H:=⟨_,rfl⟩;rw [hH] at ef
   have hH1:1 <= H:=by omega
   have hH2:H < D:=by omega
   replace hH:=Za hH;replace ef:=Za ef;clear df;have n8a:=n12;obtain ⟨U620,hU621,hBU622,qn623,kW624,kB625,-⟩:=Zaa en eA ek ec hB619.out (show w.heap.size <= g603 by have:=n8.out;have:=hn10.out;have:=n12.out;omega) q607.out;have q8z:=Za (kB625 _ _ _ (by have:=n8.out;have:=hn10.out;have:=n12.out;omega) q8.out);have q10z:=Za (kB625 _ _ _ (by have:=n8.out;have:=hn10.out;have:=n12.out;omega) q10.out);have lfz:=Za (kW624 _ _ _ _ _ lf.out);have hfz:=Za (kW624 _ _ _ _ _ hf.out);have qmz:=Za (kB625 _ _ _ (by have:=n8.out;have:=hn10.out;have:=n12.out;omega) qm.out);have qsz:=Za (kB625 _ _ _ (by have:=n8.out;have:=hn10.out;have:=n12.out;omega) qs.out);have qpz:=Za (kB625 _ _ _ (by have:=n8.out;have:=hn10.out;have:=n12.out;omega) qp.out);have qrz:=Za (kB625 _ _ _ (by have:=n8.out;have:=hn10.out;have:=n12.out;omega) qr.out);have hmfz:=Za (Fr.keep hmf.out kW624);have hsfz:=Za (Fr.keep hsf.out kW624);have efz:=Za (kW624 _ _ _ _ _ ef.out);have hB626:=Za hBU622;replace qn623:=Za qn623;obtain ⟨y0,y1,z0,z1⟩:=q607.out.two;obtain ⟨a0,a1,-⟩:=q8z.out.two;obtain ⟨b0,b1,-⟩:=qn623.out.two;go_wp2_with fail;clear a0 a1 b0 b1;(try rw [hU621]);clear hU621 kW624 kB625 hBU622 y0 y1 z0 z1;replace q8:=q8z;clear q8z;replace q10:=q10z;clear q10z;replace lf:=lfz;clear lfz;replace hf:=hfz;clear hfz;replace qm:=qmz;clear qmz;replace qs:=qsz;clear qsz;replace qp:=qpz;clear qpz;replace qr:=qrz;clear qrz;replace hmf:=hmfz;clear hmfz;replace hsf:=hsfz;clear hsfz;replace ef:=efz;clear efz;clear q607;have q607:=qn623
   clear qn623 hB619;refine (Zkf ln en lA eA lk lc ek ec lo (H:Int) U620 lf.out ef.out).mono ?_;rintro e w627 ⟨hb1,m2n,m2A,m2k,m2c,cd,rfl,hP⟩;replace q8:=Za (Zc hb1 q8.out);replace q10:=Za (Zc hb1 q10.out);replace lf:=Za (lf.out.below hb1);replace hf:=Za (hf.out.below hb1);replace qm:=Za (Zc hb1 qm.out);replace qs:=Za (Zc hb1 qs.out);replace qp:=Za (Zc hb1 qp.out);replace qr:=Za (Zc hb1 qr.out);replace hmf:=Za (hmf.out.below hb1);replace hsf:=Za (hsf.out.below hb1);replace q607:=Za (Zc hb1 q607.out);replace ef:=Za (ef.out.below hb1);have hB628:=Za (hB626.out.trans (hb1.mono hB626.out.size));clear hB626;clear hb1;have hs9:=hfit.out (lo+(H:Int)) (by omega) (by omega);have m2f:Wd w627 m2n m2A m2k m2c (lo+(H:Int)):=hP.small hs9;obtain rfl:cd=0:=hP.code0 hs9;clear hP hs9;replace m2f:=Za m2f;have n16:Hid (g603 < w627.heap.size):=Za q607.out.lt;obtain ⟨g629,hg630⟩:∃ g,w627.heap.size=g:=⟨_,rfl⟩;obtain ⟨V631,hV632,q633,hb634⟩:=Zae (w:=w627) 27 #[.bool m2n,.slice m2A m2k m2c];rw [hg630] at q633;replace q8:=Za (Zc hb634 q8.out);replace q10:=Za (Zc hb634 q10.out);replace lf:=Za (lf.out.below hb634);replace hf:=Za (hf.out.below hb634);replace qm:=Za (Zc hb634 qm.out);replace qs:=Za (Zc hb634 qs.out);replace qp:=Za (Zc hb634 qp.out);replace qr:=Za (Zc hb634 qr.out);replace hmf:=Za (hmf.out.below hb634);replace hsf:=Za (hsf.out.below hb634);replace q607:=Za (Zc hb634 q607.out);replace ef:=Za (ef.out.below hb634);replace m2f:=Za (m2f.out.below hb634)
   have hB635:=Za (hB628.out.trans (hb634.mono hB628.out.size));clear hB628;clear hb634;replace q633:=Za q633;rw [hg630] at n16;obtain ⟨x0,x1,-⟩:=q633.out.two;go_wp2_with fail;(try rw [hg630]);(try rw [hV632]);clear hV632;replace hg630:=Za hg630;clear x0 x1;refine (Zot m2n m2A m2k m2c (lo+(H:Int)) w.heap.size (w.heap.size+1) (w.heap.size+1+1) mn mA mk mc mm mB mj md sn sA sk sc sm sB sj sd sg mq sq V631 m2f.out qm.out hmf.out qs.out hsf.out qp.out (hE.out.z _ (by omega) (by omega)).1 hE.out.sm (hE.out.z _ (by omega) (by omega)).2.1 (hE.out.z _ (by omega) (by omega)).2.2 hE.out.ss).mono ?_;rintro e w636 ⟨rfl,hb1⟩;replace q8:=Za (Zc hb1 q8.out);replace q10:=Za (Zc hb1 q10.out);replace lf:=Za (lf.out.below hb1);replace hf:=Za (hf.out.below hb1);replace qm:=Za (Zc hb1 qm.out);replace qs:=Za (Zc hb1 qs.out);replace qp:=Za (Zc hb1 qp.out);replace qr:=Za (Zc hb1 qr.out);replace hmf:=Za (hmf.out.below hb1);replace hsf:=Za (hsf.out.below hb1);replace q607:=Za (Zc hb1 q607.out);replace ef:=Za (ef.out.below hb1);replace m2f:=Za (m2f.out.below hb1);replace q633:=Za (Zc hb1 q633.out);have hB637:=Za (hB635.out.trans (hb1.mono hB635.out.size));clear hB635;clear hb1
   by_cases hbe:lo+(H:Int) <= M
   case pos =>
    have t1:Zfm sg mq sq (lo+(H:Int))=true:=(hE.out.low _ (by omega)).2 hbe;rw [t1];clear t1;obtain ⟨x0,x1,-⟩:=q633.out.two;obtain ⟨U638,hU639,hBU640,qn641,kW642,kB643,-⟩:=Zaa m2n m2A m2k m2c hB637.out (show w.heap.size <= g8 by have:=n8.out;have:=hn10.out;have:=n12.out;have:=n16.out;omega) q8.out;have q10z:=Za (kB643 _ _ _ (by have:=n8.out;have:=hn10.out;have:=n12.out;have:=n16.out;omega) q10.out);have lfz:=Za (kW642 _ _ _ _ _ lf.out);have hfz:=Za (kW642 _ _ _ _ _ hf.out);have qmz:=Za (kB643 _ _ _ (by have:=n8.out;have:=hn10.out;have:=n12.out;have:=n16.out;omega) qm.out);have qsz:=Za (kB643 _ _ _ (by have:=n8.out;have:=hn10.out;have:=n12.out;have:=n16.out;omega) qs.out);have qpz:=Za (kB643 _ _ _ (by have:=n8.out;have:=hn10.out;have:=n12.out;have:=n16.out;omega) qp.out);have qrz:=Za (kB643 _ _ _ (by have:=n8.out;have:=hn10.out;have:=n12.out;have:=n16.out;omega) qr.out);have hmfz:=Za (Fr.keep hmf.out kW642);have hsfz:=Za (Fr.keep hsf.out kW642);have q607z:=Za (kB643 _ _ _ (by have:=n8.out;have:=hn10.out;have:=n12.out;have:=n16.out;omega) q607.out);have efz:=Za (kW642 _ _ _ _ _ ef.out);have m2fz:=Za (kW642 _ _ _ _ _ m2f.out);have q633z:=Za (kB643 _ _ _ (by have:=n8.out;have:=hn10.out;have:=n12.out;have:=n16.out;omega) q633.out);have hB644:=Za hBU640;replace qn641:=Za qn641;obtain ⟨y0,y1,z0,z1⟩:=q8.out.two;go_wp2_with fail;clear x0 x1;(try rw [hU639]);clear hU639 kW642 kB643 hBU640 y0 y1 z0 z1;replace q10:=q10z;clear q10z;replace lf:=lfz;clear lfz;replace hf:=hfz
    clear hfz;replace qm:=qmz;clear qmz;replace qs:=qsz;clear qsz;replace qp:=qpz;clear qpz;replace qr:=qrz;clear qrz;replace hmf:=hmfz;clear hmfz;replace hsf:=hsfz;clear hsfz;replace q607:=q607z;clear q607z;replace ef:=efz;clear efz;replace m2f:=m2fz;clear m2fz;replace q633:=q633z;clear q633z;clear q8;have q8:=qn641;clear qn641 hB637
    go_roundg (hi - (lo+(H:Int))).toNat
    case measure=>have:=hgk.out;omega
    case rel=>exact ⟨lo+(H:Int),hi,_,_,_,_,_,_,_,_,Za rfl,hbe,by omega,hMh,hhb,q8,q10,m2f,hf,qm,qs,qp,qr,hmf,hsf,hB644⟩
   have t1:Zfm sg mq sq (lo+(H:Int))=false:=by
    cases h9:Zfm sg mq sq (lo+(H:Int)) with
    | false=>rfl
    | true=>exact absurd ((hE.out.low _ (by omega)).1 h9) hbe
   rw [t1];clear t1;obtain ⟨x0,x1,-⟩:=q633.out.two;obtain ⟨U645,hU646,hBU647,qn648,kW649,kB650,-⟩:=Zaa m2n m2A m2k m2c hB637.out (show w.heap.size <= g9 by have:=n8.out;have:=hn10.out;have:=n12.out;have:=n16.out;omega) q10.out;have q8z:=Za (kB650 _ _ _ (by have:=n8.out;have:=hn10.out;have:=n12.out;have:=n16.out;omega) q8.out);have lfz:=Za (kW649 _ _ _ _ _ lf.out);have hfz:=Za (kW649 _ _ _ _ _ hf.out);have qmz:=Za (kB650 _ _ _ (by have:=n8.out;have:=hn10.out;have:=n12.out;have:=n16.out;omega) qm.out);have qsz:=Za (kB650 _ _ _ (by have:=n8.out;have:=hn10.out;have:=n12.out;have:=n16.out;omega) qs.out);have qpz:=Za (kB650 _ _ _ (by have:=n8.out;have:=hn10.out;have:=n12.out;have:=n16.out;omega) qp.out);have qrz:=Za (kB650 _ _ _ (by have:=n8.out;have:=hn10.out;have:=n12.out;have:=n16.out;omega) qr.out);have hmfz:=Za (Fr.keep hmf.out kW649);have hsfz:=Za (Fr.keep hsf.out kW649);have q607z:=Za (kB650 _ _ _ (by have:=n8.out;have:=hn10.out;have:=n12.out;have:=n16.out;omega) q607.out);have efz:=Za (kW649 _ _ _ _ _ ef.out);have m2fz:=Za (kW649 _ _ _ _ _ m2f.out);have q633z:=Za (kB650 _ _ _ (by have:=n8.out;have:=hn10.out;have:=n12.out;have:=n16.out;omega) q633.out);have hB651:=Za hBU647;replace qn648:=Za qn648;obtain ⟨y0,y1,z0,z1⟩:=q10.out.two;go_wp2_with fail;clear x0 x1;(try rw [hU646]);clear hU646 kW649 kB650 hBU647 y0 y1 z0 z1;replace q8:=q8z;clear q8z;replace lf:=lfz;clear lfz;replace hf:=hfz;clear hfz;replace qm:=qmz;clear qmz;replace qs:=qsz;clear qsz;replace qp:=qpz;clear qpz
   replace qr:=qrz;clear qrz;replace hmf:=hmfz;clear hmfz;replace hsf:=hsfz;clear hsfz;replace q607:=q607z;clear q607z;replace ef:=efz;clear efz;replace m2f:=m2fz;clear m2fz;replace q633:=q633z;clear q633z;clear q10;have q10:=qn648;clear qn648 hB637
   go_roundg ((lo+(H:Int)) - lo).toNat
   case measure=>have:=hgk.out;omega
   case rel=>exact ⟨lo,lo+(H:Int),_,_,_,_,_,_,_,_,Za rfl,hlM,hl1,by omega,by omega,q8,q10,lf,m2f,qm,qs,qp,qr,hmf,hsf,hB651⟩
structure RootZ (s r up:Int):Prop where
 r0:0 <= r
 lo:r * r <= s
 hi:s < (r+1) * (r+1)
 up:up=if r * r < s then r+1 else r
theorem RootZ.le {s r up x:Int} (h:RootZ s r up):(x <= 0 \/ x * x <= s) ↔ x <= r:=by
 obtain ⟨h0,h1,h2,-⟩:=h
 constructor
 ·rintro (h3 | h3)
  ·omega
  ·apply Classical.byContradiction
   intro h4;have h5:(r+1) * (r+1) <= x * x:=Int.mul_le_mul (by omega) (by omega) (by omega) (by omega);omega
 ·intro h3
  rcases Int.lt_or_le 0 x with h4 | h4
  ·have h5:x * x <= r * r:=Int.mul_le_mul h3 h3 (by omega) h0
   exact .inr (by omega)
  ·exact .inl h4
theorem RootZ.ge {s r up x:Int} (h:RootZ s r up):(x <= 0/\s <= x * x) ↔ x <= -up:=by
 obtain ⟨h0,h1,h2,h3⟩:=h
 have hx:x * x=(-x) * (-x):=by rw [Int.neg_mul_neg]
 rw [hx]
 by_cases h4:r * r < s
 ·rw [if_pos h4] at h3
  constructor
  ·rintro ⟨h5,h6⟩
   apply Classical.byContradiction
   intro h7;have h8:(-x) * (-x) <= r * r:=Int.mul_le_mul (by omega) (by omega) (by omega) h0;omega
  ·intro h5
   have h8:(r+1) * (r+1) <= (-x) * (-x):=Int.mul_le_mul (by omega) (by omega) (by omega) (by omega);exact ⟨by omega,by omega⟩
 ·rw [if_neg h4] at h3
  constructor
  ·rintro ⟨h5,h6⟩
   apply Classical.byContradiction
   intro h7;have h8:(-x+1) * (-x+1) <= r * r:=Int.mul_le_mul (by omega) (by omega) (by omega) h0
   have h9:(-x+1) * (-x+1)=(-x) * (-x)+2 * (-x)+1:=by grind
   omega
  ·intro h5
   have h8:r * r <= (-x) * (-x):=Int.mul_le_mul (by omega) (by omega) h0 (by omega);exact ⟨by omega,by omega⟩
theorem Zq9 {a d w:Int} (hd:0 < d):w <= Int.fdiv a d ↔ w * d <= a:=by
 rw [Int.fdiv_eq_ediv_of_nonneg _ (by omega)];exact Int.le_ediv_iff_mul_le hd
theorem Zhb {a b c:Rat} (h:0 < c):c * a <= c * b ↔ a <= b:=⟨fun h1=>Rat.le_of_mul_le_mul_left h1 h,fun h1=>Rat.mul_le_mul_of_nonneg_left h1 (Rat.le_of_lt h)⟩
section
variable {mean sq:Rat} {m n s r up w:Int}
theorem Ziw (hm:0 < m) (hn:(n:Rat)=2 * mean * m) (hs:(s:Rat)=4 * sq * m * m):((w:Rat) - mean <= 0 ↔ 2 * m * w - n <= 0)/\(((w:Rat) - mean) * ((w:Rat) - mean) <= sq ↔ (2 * m * w - n) * (2 * m * w - n) <= s)/\(sq <= ((w:Rat) - mean) * ((w:Rat) - mean) ↔ s <= (2 * m * w - n) * (2 * m * w - n)):=by
 have hmR:(0:Rat) < (m:Rat):=by exact_mod_cast hm
 have e1:((2 * m * w - n:Int):Rat)=2 * (m:Rat) * ((w:Rat) - mean):=by
  rw [Rat.intCast_sub,Rat.intCast_mul,Rat.intCast_mul,hn];have:((2:Int):Rat)=2:=rfl;rw [this];grind
 have hm2:(0:Rat) < 2 * (m:Rat):=Rat.mul_pos (by decide) hmR;have hm4:(0:Rat) < 4 * (m:Rat) * (m:Rat):=Rat.mul_pos (Rat.mul_pos (by decide) hmR) hmR
 have e2:(((2 * m * w - n) * (2 * m * w - n):Int):Rat)=4 * (m:Rat) * (m:Rat) * (((w:Rat) - mean) * ((w:Rat) - mean)):=by
  rw [Rat.intCast_mul,e1];grind
 have e3:(s:Rat)=4 * (m:Rat) * (m:Rat) * sq:=by rw [hs];grind
 refine ⟨?_,?_,?_⟩
 ·have h1:((2 * m * w - n:Int):Rat) <= ((0:Int):Rat) ↔ 2 * m * w - n <= 0:=Rat.intCast_le_intCast
  rw [<- h1,e1]
  have:((0:Int):Rat)=2 * (m:Rat) * 0:=by show (0:Rat)=_;grind
  rw [this];exact (Zhb hm2).symm
 ·have h1:(((2 * m * w - n) * (2 * m * w - n):Int):Rat) <= (s:Rat) ↔ _:=Rat.intCast_le_intCast
  rw [<- h1,e2,e3];exact (Zhb hm4).symm
 ·have h1:(s:Rat) <= (((2 * m * w - n) * (2 * m * w - n):Int):Rat) ↔ _:=Rat.intCast_le_intCast
  rw [<- h1,e2,e3];exact (Zhb hm4).symm
theorem Zrx (hm:0 < m) (hn:(n:Rat)=2 * mean * m) (hs:(s:Rat)=4 * sq * m * m) (hr:RootZ s r up):((w:Rat) - mean <= 0 \/ ((w:Rat) - mean) * ((w:Rat) - mean) <= sq) ↔ w <= Int.fdiv (n+r) (m+m):=by
 obtain ⟨h1,h2,-⟩:=Ziw (w:=w) hm hn hs;rw [h1,h2,hr.le,Zq9 (by omega)]
 have:w * (m+m)=2 * m * w:=by grind
 omega
theorem Zqb (hm:0 < m) (hn:(n:Rat)=2 * mean * m) (hs:(s:Rat)=4 * sq * m * m) (hr:RootZ s r up):((w:Rat) - mean <= 0/\sq <= ((w:Rat) - mean) * ((w:Rat) - mean)) ↔ w <= Int.fdiv (n - up) (m+m):=by
 obtain ⟨h1,-,h3⟩:=Ziw (w:=w) hm hn hs;rw [h1,h3,hr.ge,Zq9 (by omega)]
 have:w * (m+m)=2 * m * w:=by grind
 omega
end
end Go.Proofs.YtaioanjcjijckaaGreat
