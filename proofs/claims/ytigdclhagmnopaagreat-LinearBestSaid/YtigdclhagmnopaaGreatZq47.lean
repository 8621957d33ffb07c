/- The body of the law LinearBest. -/
import Derived.Test.YtigdclhagmnopaaGreatZq46
set_option maxRecDepth 100000
set_option maxHeartbeats 16000000
set_option linter.unusedSimpArgs false
set_option linter.unusedVariables false
namespace Go.Proofs.YtigdclhagmnopaaGreat
open Go.RowKit
attribute [local go_sem] Zh
theorem FL.at2 {w:World} {g o n c:Nat} {qs:List Rat} (h:FL w (some ⟨g,o,none⟩) n c qs) {k:Nat} (hk:k < n):∃ na A1 n1 c1 nb B m d,At4 w g (o+k * 4) na A1 n1 c1 nb B m d/\Fr w na A1 n1 c1 nb B m d (qs[k]?.getD 0):=by
 obtain ⟨g',o',na,A1,n1,c1,nb,B,m,d,e,h1,h2⟩:=h.at_ hk
 cases e
 exact ⟨_,_,_,_,_,_,_,_,h1,h2⟩
theorem MIL.at2 {w:World} {g o n c m:Nat} {rs:List RI} (h:MIL w (some ⟨g,o,none⟩) n c rs) (hrow:∀ q ∈ rs,q.n=m) (hm:0 < m) {r:Nat} (hr:r < n):∃ g1 o1 c1,w.cell? ⟨g,o+r,none⟩=some (.slice (some ⟨g1,o1,none⟩) m c1)/\m <= c1/\c1 <= maxLen/\∀ t,t < m->w.cell? ⟨g1,o1+t,none⟩=some (.int .i64 (Zv rs t r))/\I64 (Zv rs t r):=by
 obtain ⟨g',o',q,e,hq,k,hL⟩:=h.at_ hr
 cases e
 have hqn:=hrow q (List.mem_of_getElem? hq);rw [hqn] at k hL;obtain ⟨g1,o1,e1,hc⟩:=hL.2.2.2.2 hm;rw [e1] at k;refine ⟨g1,o1,_,k,hL.2.1,hL.2.2.1,fun t ht=>?_⟩;have h2:q.l[t]?.getD 0=Zv rs t r:=(Zkr hq).symm;exact ⟨by rw [<- h2];exact hc t ht,by rw [<- h2];exact Zco hL.2.2.2.1 t⟩
theorem Ztf {xs:List Rat} {m:Nat} (h:xs.length=m):(List.range m).map (fun k=>xs[k]?.getD 0)=xs:=by
 subst h
 apply List.ext_getElem?
 intro k
 by_cases hk:k < xs.length
 ·rw [List.getElem?_map,List.getElem?_range hk,List.getElem?_eq_getElem hk];simp [hk]
 ·rw [List.getElem?_eq_none (by simpa using hk),List.getElem?_eq_none (by omega)]
theorem Zvi (A B C D:Option Addr) (n c m0 d0 k e0 pl pc:Nat) (rs:List RI) (rr ws ch:List Int) (w:World) (h:MIL w A n c rs) (hr:LimI w B m0 d0 rr) (hw:LimI w C k e0 ws) (hc:Lim8 w D pl pc ch) :
    Calls Tryz.prog 8 #[.slice A n c,.slice B m0 d0,.slice C k e0,.slice D pl pc] w fun e w'=>e=.returned (.bool true)/\Below w.heap.size w w':=by
 have hmx:Tryz.prog.follows .mixedOrders=true:=by kernel_rfl
 obtain ⟨iF,hi,hz0,hz1,hz2⟩:=info_parts Ze2;have s1:=hr.nlen;have s2:=hw.nlen;have hnc:=h.2.2.1;have hnc1:=h.2.1;have hpc:=hc.2.2.1;have hpc1:=hc.2.1;unfold maxLen at hnc hpc;have hnr:=h.1
 have hch:Hid (∀ k:Nat,-128 <= ch[k]?.getD 0/\ch[k]?.getD 0 <= 127):=Za fun k=>hc.get k
 replace h:=Za h;replace hr:=Za hr;replace hw:=Za hw;replace hc:=Za hc;go_enter Tryz.func8,Tryz.ntmps8;go_wp2_with fail;refine (Zvm w).mono ?_;rintro e w1 ⟨rfl,hb1⟩;go_wp2_with fail;refine (Zj8 A B C n c m0 d0 k e0 rs w1 (h.out.below hb1) s1 s2).mono ?_;rintro e w2 ⟨b1,rfl,hb2,hc1⟩;have hB2:=hb1.trans (hb2.mono hb1.size);clear hb1 hb2
 cases b1 with
 | true =>
  clear hc1;go_wp2_with fail;go_ret;exact ⟨rfl,hB2⟩
 | false =>
  have hmod:=Za (hc1 rfl);clear hc1;obtain ⟨E,hE⟩:∃ E,Zb2 rs rr ws=E:=⟨_,rfl⟩;replace hE:=Za hE;go_wp2_with fail;refine (Zod A B C n c m0 d0 k e0 rs rr ws w2 (h.out.below hB2) (hr.out.below hB2) (hw.out.below hB2) E (by rw [Zu6];exact hE.out)).mono ?_;rintro e w3 ⟨rfl,hb3⟩;have hB3:=hB2.trans (hb3.mono hB2.size);clear hb3 hB2
  by_cases hE0:E=0
  case neg =>
   have t1:(E != 0)=true:=by simpa using hE0
   have t1':decide (E=0)=false:=decide_eq_false hE0;replace hE0:=Za hE0;go_wp2_with fail;go_ret;exact ⟨rfl,hB3⟩
  subst hE0
  by_cases hp20:20 < pl
  case pos =>
   have t2:decide ((20:Int) < (pl:Int))=true:=decide_eq_true (by omega);replace hp20:=Za hp20;go_wp2_with fail;go_ret;exact ⟨rfl,hB3⟩
  have t2:decide ((20:Int) < (pl:Int))=false:=decide_eq_false (by omega);obtain ⟨f1,f2,f3,f4,f5,f6,f7,f8⟩:=Zbq hE.out
  obtain rfl:n=k:=by have:=hw.out.1;omega
  obtain rfl:n=m0:=by have:=hr.out.1;omega
  obtain ⟨m,hm⟩:∃ m,n0I rs=m:=⟨_,rfl⟩
  have hrow:Hid (∀ q ∈ rs,q.n=m):=Za fun q hq=>by rw [<- hm];exact (f8 q hq).1
  have hn0:0 < n:=by
   rcases Nat.eq_zero_or_pos n with h0 | h0
   ·exfalso
    have h1:rs=[]:=List.eq_nil_of_length_eq_zero (by omega);rw [h1] at f3;exact f3 rfl
   ·exact h0
  obtain ⟨gA,oA,q0,eA,hq0,kA,hL0⟩:=h.out.at_ hn0;subst eA;have hqn:=hrow.out q0 (List.mem_of_getElem? hq0)
  have hm0:0 < m:=by rw [<- hm];omega
  have hm4:m <= 4:=by
   obtain ⟨g1,g2,-⟩:=hmod.out;have h1:=(g1 0 q0 hn0 (by omega) hq0).1;have h2:=f2 q0 (List.mem_of_getElem? hq0);omega
  have hn12:n <= 12:=by
   obtain ⟨g1,g2,-⟩:=hmod.out;omega
  rw [hqn] at kA hL0;rw [Nat.add_zero] at kA;have hqc:=hL0.2.2.1;have hqc1:=hL0.2.1;unfold maxLen at hqc;obtain ⟨qA,qc,hqA,hqcE⟩:∃ qA qc,q0.A=qA/\q0.c=qc:=⟨_,_,rfl,rfl⟩;rw [hqA,hqcE] at kA;rw [hqcE] at hqc hqc1;obtain ⟨E1,ds,d,-,hL2,hL3⟩:=Znq rs rr ws;rw [hm,hnr] at hL2;have hL4:=hL2 hE.out;have KL:=Za (fun W (hB:Below w.heap.size w W)=>hL3 W (some ⟨gA,oA,none⟩) B C n c n d0 n e0 (h.out.below hB) (hr.out.below hB) (hw.out.below hB));have hz:=Zux hE.out;rw [hnr] at hz;have KN:=Za (fun W (hB:Below w.heap.size w W)=>Zsh (some ⟨gA,oA,none⟩) C n c e0 m rs ws W (h.out.below hB) (hw.out.below hB) hz hm)
  have KP:Hid (∀ W gN,MFL W (some ⟨gN,0,none⟩) m m (Zd9 rs ws n m)->Calls Tryz.prog 13 #[.slice (some ⟨gN,0,none⟩) m m] W fun e w'=>e=.returned (.tuple #[.bool (decide (Z1 m (Za0 rs ws n) ≠ 0)),.int .i64 0])/\Below W.heap.size W w'):=Za (fun W gN hF=>by
   obtain ⟨ms,hMX,hqm,hrows⟩:=hF.mxl (nrm_sm8 hE.out hnr);have hsq:=nrm_sq hMX hm0 (by omega) hrows;have hg:=Zp0 hE.out hnr hm hm4;obtain ⟨hs1,-⟩:=Zjq hE.out hnr hm hm4;rw [<- nrm_pd hE.out hnr hm hm4,<- hqm]
   exact Zn0 _ m m ms W hMX hsq (by omega) (fun j hj=>by rw [hqm];exact (hg j hj).1) (fun i j=>by
    rw [hqm]
    exact ⟨Nat.lt_of_le_of_lt (hs1 i j).1 (Zb0 (by decide)),Nat.lt_of_le_of_lt (Nat.le_trans (hs1 i j).2 (Zbt 1)) (Zb0 (by decide))⟩))
  replace kA:=Za kA;replace hB3:=Za hB3;clear hL0 hqn hq0 hqA hqcE f1 f2 f4 f5 f6 f7 f8 hmod hL2 hL3 hz f3;go_wp2_with fail;refine (Zoi (some ⟨gA,oA,none⟩) C n c e0 m rs ws w3 (h.out.below hB3.out) (hw.out.below hB3.out) hrow.out (by omega)).mono ?_;rintro e w4 ⟨b2,rfl,hb4⟩;have hB4:=Za (hB3.out.trans (hb4.mono hB3.out.size));clear hb4 hB3
  cases b2 with
  | false =>
   go_wp2_with fail;go_ret;exact ⟨rfl,hB4.out⟩
  | true =>
   go_wp2_with fail;refine (KL.out w4 hB4.out).mono ?_;rintro e w5 ⟨A3,n3,c3,A4,n4,c4,B4,m4,d4,rfl,hb5,y1,l1,l2⟩;obtain ⟨dna,hdna⟩:∃ x,d.na=x:=⟨_,rfl⟩;obtain ⟨dnb,hdnb⟩:∃ x,d.nb=x:=⟨_,rfl⟩;rw [hdna,hdnb];obtain ⟨gS,hgS⟩:∃ g,w5.heap.size=g:=⟨_,rfl⟩;obtain ⟨V5,hV5,qS,hbV5⟩:=Za2 (w:=w5) 45 #[.bool dna,.slice A4 n4 c4,.bool dnb,.slice B4 m4 d4];rw [hgS] at qS;have hb45:=hb5.trans (hbV5.mono hb5.size);have hB5:=Za (hB4.out.trans (hb45.mono hB4.out.size));replace y1:=Za (y1.below hbV5);replace l1:=Za (l1.below hbV5);replace l2:=Za (l2.below hbV5);replace qS:=Za qS;clear hb5 hbV5 hb45 hB4 KL;go_wp2_with fail;(try rw [hgS]);(try rw [hV5]);clear hV5;replace hgS:=Za hgS;refine (KN.out V5 hB5.out).mono ?_;rintro e w6 ⟨gN,rfl,hb6,hMF⟩;have hB6:=Za (hB5.out.trans (hb6.mono hB5.out.size));replace y1:=Za (y1.out.below hb6);replace l1:=Za (l1.out.below hb6);replace l2:=Za (l2.out.below hb6);replace qS:=Za (Zc hb6 qS.out);clear hb6 hB5 KN;go_wp2_with fail;refine (KP.out w6 gN hMF).mono ?_;rintro e w7 ⟨rfl,hb7⟩;have hB7:=Za (hB6.out.trans (hb7.mono hB6.out.size));replace y1:=Za (y1.out.below hb7);replace l1:=Za (l1.out.below hb7);replace l2:=Za (l2.out.below hb7);replace qS:=Za (Zc hb7 qS.out);have k0:=Zb hB7.out kA.out;clear hb7 hB6 KP hMF
   by_cases hD:Z1 m (Za0 rs ws n)=0
   ·obtain ⟨rfl,rfl⟩:E1=22/\ds=[]:=by
      rcases hL4 with h1 | h1
      ·exact h1.2
      ·exact absurd hD h1.1
    rw [decide_eq_false (by simp [hD])];clear hL4 hD y1 l1 l2;go_wp2_with fail;go_ret;exact ⟨rfl,hB7.out⟩
   ·obtain ⟨rfl,xs,rfl,hd,hX⟩:E1=0/\∃ xs:List Rat,ds=xs.map dfQ/\d=dfQ (Zby rs rr ws (fun k=>xs[k]?.getD 0) m n)/\BestX rs rr ws xs ch n m:=by
      rcases hL4 with h1 | ⟨-,h2,x,h3,h4,h5,-,D9,h6,h7,h8⟩
      ·exact absurd h1.1 hD
      ·have h9:pw (5 * m) <= pw 20:=Zbk (by omega)
       refine ⟨h2,(List.range m).map x,h3,?_,Zwl hE.out hnr hm hm4 hD h5 h6 (Nat.le_trans h7 h9) (fun k hk=>(h8 k hk).mono h9) (fun k=>by have:=hch.out k;omega)⟩;rw [h4]
       congr 1
       exact Zuk fun k hk=>(Zk1 hk).symm
    rw [decide_eq_true hD];subst hd;have hxl:=hX.len
    have hFX:=y1.out.fl (fun q hq=>by
     obtain ⟨i,hi,rfl⟩:=List.getElem_of_mem hq;have h1:=hX.few i (by omega);rw [List.getElem?_eq_getElem hi] at h1
     exact ⟨Nat.lt_of_lt_of_le h1.1 (Zbk (by decide)),Nat.lt_of_lt_of_le h1.2 (Zbk (by decide))⟩)
    obtain rfl:m=n3:=by rw [<- hFX.len,hxl]
    have hSf:Fr w7 dna A4 n4 c4 dnb B4 m4 d4 (Zby rs rr ws (fun k=>xs[k]?.getD 0) m n):=by
     rw [<- hdna,<- hdnb];exact df_fr l1.out l2.out ⟨Nat.lt_of_lt_of_le (hX.sum.sum n (Nat.le_refl _)).1 (Zbk (by decide)),Nat.lt_of_lt_of_le (hX.sum.sum n (Nat.le_refl _)).2 (Zbk (by decide))⟩
    have hxc:=hFX.cap;unfold maxLen at hxc;have hxc1:=hxc.1;have hxc2:=hxc.2
    obtain ⟨gX,oX,rfl⟩:∃ g o,A3=some ⟨g,o,none⟩:=by
     obtain ⟨g,o,_,_,_,_,_,_,_,_,e,-⟩:=hFX.at_ hm0;exact ⟨g,o,e⟩
    replace hX:=Za hX;replace hFX:=Za hFX;replace hSf:=Za hSf;replace h:=Za (h.out.below hB7.out);replace hr:=Za (hr.out.below hB7.out);replace hw:=Za (hw.out.below hB7.out);replace hc:=Za (hc.out.below hB7.out);clear hL4 hD y1 l1 l2 hdna hdnb hxc;go_wp2_with fail
    go_loopg [18] m (fun k iv wr=>∃ i:Nat,i+k=m/\iv=.int .i64 i/\Below w7.heap.size w7 wr)
    case atStart=>exact ⟨0,by omega,rfl,Below.refl _ _⟩
    case round =>
     obtain ⟨i,hik,rfl,hBi⟩:=hrel
     cases gk with
     | succ k' =>
      obtain rfl:k'=m - (i+1):=by omega
      have him:i < m:=by omega
      have t6:decide ((i:Int) < (m:Int))=true:=decide_eq_true (by omega)
      have bi:(i:Int) < (m:Int):=by omega
      obtain ⟨xn,xA,xk,xc,xm,xB,xj,xd,hX4,hfx⟩:=(hFX.out.below hBi).at2 him;obtain ⟨x0,x1,x2,x3⟩:=hX4;have hfe:=hfx.few (hX.out.few i him).1 (hX.out.few i him).2;have t7:decide ((60:Int) < ((max xk xj:Nat):Int))=false:=decide_eq_false (by omega);replace hfe:=Za hfe;go_wp2_with fail;refine (Ziu xn xm xA xB xk xc xj xd _ wr hfx).mono ?_;rintro e y1 ⟨rfl,hy1⟩;replace x0:=Zb hy1 x0;replace x1:=Zb hy1 x1;replace x2:=Zb hy1 x2;replace x3:=Zb hy1 x3;have hBn:=Za (hBi.trans (hy1.mono hBi.size));clear hy1 hfx hBi;go_wp2_with fail;refine (Few_any xn xm xA xB xk xc xj xd y1 (by have:=hfe.out;unfold maxLen;omega) (by have:=hfe.out;unfold maxLen;omega)).mono ?_;rintro e y2 ⟨rfl,hy2⟩;have hBn2:=Za (hBn.out.trans (hy2.mono hBn.out.size));clear hy2 x0 x1 x2 x3;go_wp2_with fail
      go_roundg (m - (i+1))
      case measure=>omega
      case rel=>exact ⟨i+1,by omega,by go_num,hBn2.out⟩
     | zero =>
      obtain rfl:i=m:=by omega
      have t6:decide ((i:Int) < (i:Int))=false:=by simp
      go_wp2_with fail;obtain ⟨w8,rfl⟩:∃ w8:World,w8=wr:=⟨_,rfl⟩
      go_loopg [19] i (fun k iv wr=>∃ j:Nat,j+k=i/\iv=.int .i64 j/\Below w7.heap.size w7 wr)
      case atStart=>exact ⟨0,by omega,rfl,hBi⟩
      case round =>
       clear hBi;obtain ⟨j,hjk,rfl,hBj⟩:=hrel
       cases gk with
       | succ k' =>
        obtain rfl:k'=i - (j+1):=by omega
        have hjm:j < i:=by omega
        have t8:decide ((j:Int) < (i:Int))=true:=decide_eq_true (by omega)
        have bj:(j:Int) < (i:Int):=by omega
        go_wp2_with fail;refine (Zds 0 1 wr (by decide) (by decide) (by decide) (by decide)).mono ?_;rintro e v1 ⟨hv1,pn,pA,pk,pc,pm,pB,pj,pd,rfl,hf1⟩;rw [Zcx] at hf1;obtain ⟨gt,hgt⟩:∃ g,v1.heap.size=g:=⟨_,rfl⟩;obtain ⟨V1,hV1,bkd,hbV1⟩:=Za2 (w:=v1) 45 #[.bool pn,.slice pA pk pc,.bool pm,.slice pB pj pd];rw [hgt] at bkd;have hvt:VarF V1 gt (Zi3 rs rr ws (fun k=>xs[k]?.getD 0) i j 0):=⟨_,_,_,_,_,_,_,_,bkd,hf1.below hbV1⟩;have hb01:Below w7.heap.size w7 V1:=hBj.trans ((hv1.trans (hbV1.mono hv1.size)).mono hBj.size)
        have hgt2:w7.heap.size <= gt:=by rw [<- hgt];exact Nat.le_trans hBj.size hv1.size
        replace hvt:=Za hvt;replace hb01:=Za hb01;clear hf1 bkd hv1 hbV1 hBj;go_wp2_with fail;(try rw [hgt]);(try rw [hV1]);clear hV1 hgt
        go_loopg [21] n (fun k kv wr=>∃ r:Nat,r+k=n/\kv=.int .i64 r/\VarF wr gt (Zi3 rs rr ws (fun k=>xs[k]?.getD 0) i j r)/\Kept (fun g=>g=gt) V1 wr)
        case atStart=>exact ⟨0,by omega,rfl,hvt.out,Kept.refl _ _⟩
        case round =>
         clear hvt;obtain ⟨r,hrk,rfl,hvr,hKr⟩:=hrel;have hbq:Below w7.heap.size w7 wr:=hb01.out.trans (hKr.to_below (fun k e=>by omega) hb01.out.size)
         cases gk with
         | zero =>
          obtain rfl:r=n:=by omega
          have t9:decide ((r:Int) < (r:Int))=false:=by simp
          obtain ⟨sn,sA,sk,sc,sm,sB,sj,sd,qs,hfs⟩:=hvr;rw [Zuw hX.out.norm hjm] at hfs;obtain ⟨a1,a2,l1,l2⟩:=hfs.df
          obtain rfl:sk=0:=by
           have h1:=l1.len;rw [show (dfQ 0).la=digits 0 from rfl,Zao] at h1;exact h1.symm
          obtain ⟨c0,c1',c2,c3,-⟩:=qs.four;clear qs hfs a1 a2 l1 l2 hKr;go_wp2_with fail
          go_roundg (i - (j+1))
          case measure=>omega
          case rel=>exact ⟨j+1,by omega,by go_num,hbq⟩
         | succ k2 =>
          obtain rfl:k2=n - (r+1):=by omega
          have hrn:r < n:=by omega
          have t9:decide ((r:Int) < (n:Int))=true:=decide_eq_true (by omega)
          have br:(r:Int) < (n:Int):=by omega
          obtain ⟨gq,oq,cq,kR,hq1,hq2,hqc'⟩:=(h.out.below hbq).at2 hrow.out hm0 hrn;obtain ⟨kq,hzI⟩:=hqc' j hjm;unfold maxLen at hq2;obtain ⟨z,hz⟩:∃ z,Zv rs j r=z:=⟨_,rfl⟩;rw [hz] at kq hzI;have hzI':=hzI;unfold I64 at hzI';have huI:=Zco (hw.out.below hbq).2.2.2.1 r;obtain ⟨gC,oC,rfl,hcC⟩:=(hw.out.below hbq).2.2.2.2 hn0;have kC:=hcC r hrn;obtain ⟨u,hu⟩:∃ u,ws[r]?.getD 0=u:=⟨_,rfl⟩;rw [hu] at kC huI;have huI':=huI;unfold I64 at huI';have hgu:Hid (Z5 ws r=u):=Za hu;have hgz:Hid (Zv rs j r=z):=Za hz;have sd:=Za (hX.out.sum.res r i hrn (Nat.le_refl _));have sda:=Za (hX.out.best.ra r j hrn hjm);have sdw:=Za (hX.out.best.raw r j hrn hjm);have sot:=Za (hX.out.best.t j r hjm (by omega));rw [hz] at sda sdw;rw [hgu.out] at sdw;replace hvr:=Za hvr;replace hKr:=Za hKr;clear hcC hqc' hz hu;go_wp2_with fail;refine (Zi6 (some ⟨gA,oA,none⟩) B n c d0 i c3 r (some ⟨gX,oX,none⟩) rs rr xs wr (h.out.below hbq) (hr.out.below hbq) (hFX.out.below hbq) hrow.out hrn hm0 (by omega) ⟨hX.out.sum.xk,fun k hk=>hX.out.sum.f r k hrn hk,fun t ht=>hX.out.sum.res r t hrn ht⟩).mono ?_;rintro e w2 ⟨hb2,dn,dA,dk,dc,dm,dB,dj,dd,rfl,hfd⟩;obtain ⟨gd,hgd⟩:∃ g,w2.heap.size=g:=⟨_,rfl⟩;obtain ⟨V2,hV2,bkd,hbV2⟩:=Za2 (w:=w2) 45 #[.bool dn,.slice dA dk dc,.bool dm,.slice dB dj dd];rw [hgd] at bkd;have hb22:=hb2.trans (hbV2.mono hb2.size);have hfd2:=Za (hfd.below hbV2)
          have hgd2:wr.heap.size <= gd:=by rw [<- hgd];exact hb2.size
          obtain ⟨v0,v1,v2,v3,-⟩:=bkd.four;replace kR:=Zb hb22 kR;replace kq:=Zb hb22 kq;have hb2h:=Za hb22;replace bkd:=Za bkd;clear hfd hb2 hbV2 hb22;go_wp2_with fail;(try rw [hgd]);(try rw [hV2]);clear hV2 hgd;have hVwr:wr.heap.size <= V2.heap.size:=hb2h.out.size;refine Zaj [13] (fun wx=>wx.cell? ⟨gd,0,none⟩=some (.bool dn)/\wx.cell? ⟨gd,1,none⟩=some (.slice dA dk dc)/\wx.cell? ⟨gd,2,none⟩=some (.bool dm)/\wx.cell? ⟨gd,3,none⟩=some (.slice dB dj dd)/\wx.cell? ⟨gA,oA+r,none⟩=some (.slice (some ⟨gq,oq,none⟩) i cq)/\wx.cell? ⟨gq,oq+j,none⟩=some (.int .i64 z)) hmx ⟨v0,v1,v2,v3,kR,kq⟩ (fun _=>?_);refine Zi4 1 [0] rfl (by kernel_rfl) ⟨v0,v1,v2,v3,kR,kq⟩ ?_
          (refine tk1 (v:=?_) rfl (Or.inl ⟨by kernel_rfl,?_⟩) ?_;rotate_left;(· intro W2 hSw;(try dsimp only at hSw);go_simp;try with_reducible rfl);try simp only [Act.put,Zgj,Zfx,Zge,putG_a,putG_s,putG_z])
          refine tk0 ?_;refine Zfy 3 [1,2,3] rfl (by kernel_rfl) ⟨v0,v1,v2,v3,kR,kq⟩ ?_
          iterate 3 (refine tk1 (v:=?_) rfl (Or.inl ⟨by kernel_rfl,?_⟩) ?_;rotate_left;(· intro W2 _;go_simp;try with_reducible rfl);try simp only [Act.put,Zgj,Zfx,Zge,putG_a,putG_s,putG_z])
          refine tk0 ?_;refine Zi4 1 [4] rfl (by kernel_rfl) ⟨v0,v1,v2,v3,kR,kq⟩ ?_
          (refine tk1 (v:=?_) rfl (Or.inl ⟨by kernel_rfl,?_⟩) ?_;rotate_left;(· intro W2 hSw;(try dsimp only at hSw);go_simp;try with_reducible rfl);try simp only [Act.put,Zgj,Zfx,Zge,putG_a,putG_s,putG_z])
          refine tk0 ?_;refine Zfy 2 [5,6] rfl (by kernel_rfl) ⟨v0,v1,v2,v3,kR,kq⟩ ?_
          iterate 2 (refine tk1 (v:=?_) rfl (Or.inl ⟨by kernel_rfl,?_⟩) ?_;rotate_left;(· intro W2 _;go_simp;try with_reducible rfl);try simp only [Act.put,Zgj,Zfx,Zge,putG_a,putG_s,putG_z])
          refine tk0 ?_;refine Zi4 1 [7] rfl (by kernel_rfl) ⟨v0,v1,v2,v3,kR,kq⟩ ?_
          (refine tk1 (v:=?_) rfl (Or.inl ⟨by kernel_rfl,?_⟩) ?_;rotate_left;(· intro W2 hSw;(try dsimp only at hSw);go_simp;try with_reducible rfl);try simp only [Act.put,Zgj,Zfx,Zge,putG_a,putG_s,putG_z])
          refine tk0 ?_;refine Ze (i:=8) rfl (by kernel_rfl) (fun K hK=>?_);go_simp;refine (Zds z 1 V2.drew (by omega) (by omega) (by decide) (by decide)).mono ?_;rintro e wa4 ⟨hb4,un,uA,uk,uc,um,uB,uj,ud,rfl,hfu⟩;rw [Zcx] at hfu;replace hb4:=Zo hb4;replace v0:=Zb hb4 v0;replace v1:=Zb hb4 v1;replace v2:=Zb hb4 v2;replace v3:=Zb hb4 v3;replace kR:=Zb hb4 kR;replace kq:=Zb hb4 kq;refine hK.out _ _ (fun _=>⟨v0,v1,v2,v3,kR,kq⟩) ?_;clear hK K
          try simp only [Act.put,Zgj,Zfx,Zge]
          refine Ze (i:=9) rfl (by kernel_rfl) (fun K hK=>?_);go_simp;refine (Zfb dn dm un um dA dB uA uB dk dc dj dd uk uc uj ud _ _ wa4 (hfd2.out.below hb4) hfu sd.out (Zj3 hzI)).mono ?_;rintro e wa5 ⟨hb5,yn,yA,yk,yc,ym,yB,yj,yd,rfl,hfy⟩;replace v0:=Zb hb5 v0;replace v1:=Zb hb5 v1;replace v2:=Zb hb5 v2;replace v3:=Zb hb5 v3;replace kR:=Zb hb5 kR;replace kq:=Zb hb5 kq;refine hK.out _ _ (fun _=>⟨v0,v1,v2,v3,kR,kq⟩) ?_;clear hK K
          try simp only [Act.put,Zgj,Zfx,Zge]
          refine Zfy 3 [10,11,12] rfl (by kernel_rfl) ⟨v0,v1,v2,v3,kR,kq⟩ ?_
          iterate 3 (refine tk1 (v:=?_) rfl (Or.inl ⟨by kernel_rfl,?_⟩) ?_;rotate_left;(· intro W2 _;go_simp;try with_reducible rfl);try simp only [Act.put,Zgj,Zfx,Zge,putG_a,putG_s,putG_z])
          refine tk0 ?_;have hb45:=hb4.trans (hb5.mono hb4.size);have qq5:=Zc hb45 bkd.out;obtain ⟨i0,i1,i2,i3,e0',e1,e2,e3⟩:=qq5.four;obtain ⟨Zy,hZy,qy,hKy,szy⟩:=Zbs yn yA yk yc ym yB yj yd qq5;refine Zu (i:=13) rfl (by kernel_rfl) (by kernel_rfl) (fun K hK=>?_);go_simp;(try rw [hZy]);refine hK.out _ _ ?_;clear hK K
          try simp only [Act.put,Zgj,Zfx,Zge]
          refine Zk (by kernel_rfl) ?_ _;refine OnlyNormal.normal ?_;have hfy2:=Za (hfy.keptV hKy qq5 (Z2 _ _ _ _ _ _ _ _));have hbKy:Below wr.heap.size V2 Zy:=(hb45.mono hVwr).trans (hKy.to_below (fun k e=>by omega) (Nat.le_trans hVwr hb45.size));obtain ⟨v0,v1,v2,v3,-⟩:=qy.four;replace qy:=Za qy;clear hb4 hb5 hb45 qq5 i0 i1 i2 i3 e0' e1 e2 e3 hfu hfy hZy;have hb2y:=Za (hb2h.out.trans hbKy);have kC2:=Zb hb2y.out kC;clear hbKy hKy szy kR kq bkd hfd2 hb2h hVwr kC;go_wp2_with fail;have hVwr:wr.heap.size <= Zy.heap.size:=hb2y.out.size;refine Zaj [10] (fun wx=>wx.cell? ⟨gd,0,none⟩=some (.bool yn)/\wx.cell? ⟨gd,1,none⟩=some (.slice yA yk yc)/\wx.cell? ⟨gd,2,none⟩=some (.bool ym)/\wx.cell? ⟨gd,3,none⟩=some (.slice yB yj yd)/\wx.cell? ⟨gC,oC+r,none⟩=some (.int .i64 u)) hmx ⟨v0,v1,v2,v3,kC2⟩ (fun _=>?_);refine Zi4 1 [0] rfl (by kernel_rfl) ⟨v0,v1,v2,v3,kC2⟩ ?_
          (refine tk1 (v:=?_) rfl (Or.inl ⟨by kernel_rfl,?_⟩) ?_;rotate_left;(· intro W2 hSw;(try dsimp only at hSw);go_simp;try with_reducible rfl);try simp only [Act.put,Zgj,Zfx,Zge,putG_a,putG_s,putG_z])
          refine tk0 ?_;refine Zfy 3 [1,2,3] rfl (by kernel_rfl) ⟨v0,v1,v2,v3,kC2⟩ ?_
          iterate 3 (refine tk1 (v:=?_) rfl (Or.inl ⟨by kernel_rfl,?_⟩) ?_;rotate_left;(· intro W2 _;go_simp;try with_reducible rfl);try simp only [Act.put,Zgj,Zfx,Zge,putG_a,putG_s,putG_z])
          refine tk0 ?_;refine Zi4 1 [4] rfl (by kernel_rfl) ⟨v0,v1,v2,v3,kC2⟩ ?_
          (refine tk1 (v:=?_) rfl (Or.inl ⟨by kernel_rfl,?_⟩) ?_;rotate_left;(· intro W2 hSw;(try dsimp only at hSw);go_simp;try with_reducible rfl);try simp only [Act.put,Zgj,Zfx,Zge,putG_a,putG_s,putG_z])
          refine tk0 ?_;refine Ze (i:=5) rfl (by kernel_rfl) (fun K hK=>?_);go_simp;refine (Zds u 1 Zy.drew (by omega) (by omega) (by decide) (by decide)).mono ?_;rintro e wb4 ⟨hb4,un,uA,uk,uc,um,uB,uj,ud,rfl,hfu⟩;rw [Zcx] at hfu;replace hb4:=Zo hb4;replace v0:=Zb hb4 v0;replace v1:=Zb hb4 v1;replace v2:=Zb hb4 v2;replace v3:=Zb hb4 v3;replace kC2:=Zb hb4 kC2;refine hK.out _ _ (fun _=>⟨v0,v1,v2,v3,kC2⟩) ?_;clear hK K
          try simp only [Act.put,Zgj,Zfx,Zge]
          refine Ze (i:=6) rfl (by kernel_rfl) (fun K hK=>?_);go_simp;refine (Zfb yn ym un um yA yB uA uB yk yc yj yd uk uc uj ud _ _ wb4 (hfy2.out.below hb4) hfu sda.out (Zj3 huI)).mono ?_;rintro e wb5 ⟨hb5,zn,zA,zk,zc,zm,zB,zj,zd,rfl,hfz⟩;replace v0:=Zb hb5 v0;replace v1:=Zb hb5 v1;replace v2:=Zb hb5 v2;replace v3:=Zb hb5 v3;replace kC2:=Zb hb5 kC2;refine hK.out _ _ (fun _=>⟨v0,v1,v2,v3,kC2⟩) ?_;clear hK K
          try simp only [Act.put,Zgj,Zfx,Zge]
          refine Zfy 3 [7,8,9] rfl (by kernel_rfl) ⟨v0,v1,v2,v3,kC2⟩ ?_
          iterate 3 (refine tk1 (v:=?_) rfl (Or.inl ⟨by kernel_rfl,?_⟩) ?_;rotate_left;(· intro W2 _;go_simp;try with_reducible rfl);try simp only [Act.put,Zgj,Zfx,Zge,putG_a,putG_s,putG_z])
          refine tk0 ?_;have hb45:=hb4.trans (hb5.mono hb4.size);have qq5:=Zc hb45 qy.out;obtain ⟨i0,i1,i2,i3,e0',e1,e2,e3⟩:=qq5.four;obtain ⟨Zz,hZz,qz,hKz,szz⟩:=Zbs zn zA zk zc zm zB zj zd qq5;refine Zu (i:=10) rfl (by kernel_rfl) (by kernel_rfl) (fun K hK=>?_);go_simp;(try rw [hZz]);refine hK.out _ _ ?_;clear hK K
          try simp only [Act.put,Zgj,Zfx,Zge]
          refine Zk (by kernel_rfl) ?_ _;refine OnlyNormal.normal ?_;have hfz2:=Za (hfz.keptV hKz qq5 (Z2 _ _ _ _ _ _ _ _));have hbKz:Below wr.heap.size Zy Zz:=(hb45.mono hVwr).trans (hKz.to_below (fun k e=>by omega) (Nat.le_trans hVwr hb45.size));obtain ⟨v0,v1,v2,v3,-⟩:=qz.four;replace qz:=Za qz;clear hb4 hb5 hb45 qq5 i0 i1 i2 i3 e0' e1 e2 e3 hfu hfz hZz;have hb2z:=Za (hb2y.out.trans hbKz);have hvs:VarF Zz gt (Zi3 rs rr ws (fun k=>xs[k]?.getD 0) i j r):=hvr.out.below hb2z.out;have hK4:Hid (Kept (fun g=>g=gt) V1 Zz):=Za (hKr.out.below hb2z.out);obtain ⟨sn,sA,sk,sc,sm,sB,sj,sd,qs,hfs⟩:=hvs;obtain ⟨c0,c1',c2,c3,-⟩:=qs.four;replace qs:=Za qs;replace hfs:=Za hfs;clear hbKz hKz szz qy hfy2 hb2y hVwr kC2 hvr hKr qz;go_wp2_with fail;refine (Zk3 sn sm zn zm sA sB zA zB sk sc sj sd zk zc zj zd _ _ Zz hfs.out hfz2.out sot.out sdw.out).mono ?_;rintro e w6' ⟨hb6,an,aA,ak,ac,am,aB,aj,ad,rfl,hfa⟩;have qs6:=Zc hb6 qs.out;obtain ⟨i0,i1,i2,i3,e0',e1,e2,e3⟩:=qs6.four;obtain ⟨W6,hW6,q6,hK6,s6⟩:=Zbs an aA ak ac am aB aj ad qs6
          have hfin:VarF W6 gt (Zi3 rs rr ws (fun k=>xs[k]?.getD 0) i j (r+1)):=⟨_,_,_,_,_,_,_,_,q6,by
           have h5:=hfa.keptV hK6 qs6 (Z2 _ _ _ _ _ _ _ _);rw [Zrh,hgu.out,hgz.out]
           exact h5⟩
          have hKfin:Hid (Kept (fun g=>g=gt) V1 W6):=Za ((hK4.out.below hb6).trans hK6);replace hfin:=Za hfin;clear qs6 hfa q6 hK6 c0 c1' c2 c3 v0 v1 v2 v3 hb6;go_wp2_with fail;(try rw [hW6]);clear hW6
          go_roundg (n - (r+1))
          case measure=>omega
          case rel=>exact ⟨r+1,by omega,by go_num,hfin.out,hKfin.out⟩
       | zero =>
        obtain rfl:j=i:=by omega
        have t8:decide ((j:Int) < (j:Int))=false:=by simp
        obtain ⟨v0,v1,v2,v3,-⟩:=(Zc hBj qS.out).four;go_wp2_with fail;refine Zaj [] (fun wx=>wx.cell? ⟨gS,0,none⟩=some (.bool dna)/\wx.cell? ⟨gS,1,none⟩=some (.slice A4 n4 c4)/\wx.cell? ⟨gS,2,none⟩=some (.bool dnb)/\wx.cell? ⟨gS,3,none⟩=some (.slice B4 m4 d4)) hmx ⟨v0,v1,v2,v3⟩ (fun _=>?_);refine Zfy 4 [0,1,2,3] rfl (by kernel_rfl) ⟨v0,v1,v2,v3⟩ ?_
        iterate 4 (refine tk1 (v:=?_) rfl (Or.inl ⟨by kernel_rfl,?_⟩) ?_;rotate_left;(· intro W2 _;go_simp;try with_reducible rfl);try simp only [Act.put,Zgj,Zfx,Zge,putG_a,putG_s,putG_z])
        refine tk0 ?_;refine Zi4 1 [5] rfl (by kernel_rfl) ⟨v0,v1,v2,v3⟩ ?_
        (refine tk1 (v:=?_) rfl (Or.inl ⟨by kernel_rfl,?_⟩) ?_;rotate_left;(· intro W2 hSw;(try dsimp only at hSw);go_simp;try with_reducible rfl);try simp only [Act.put,Zgj,Zfx,Zge,putG_a,putG_s,putG_z])
        refine tk0 ?_;refine Ze (i:=4) rfl (by kernel_rfl) (fun K hK=>?_);go_simp;refine (Zov (some ⟨gA,oA,none⟩) B C n c d0 e0 j c3 (some ⟨gX,oX,none⟩) rs rr ws xs wr.drew (h.out.below (Zf hBj 1)) (hr.out.below (Zf hBj 1)) (hw.out.below (Zf hBj 1)) (hFX.out.below (Zf hBj 1)) hrow.out hm0 (by omega) (by omega) hX.out.sum).mono ?_;rintro e wa4 ⟨hb4,un,uA,uk,uc,um,uB,uj,ud,rfl,hfu⟩;replace hb4:=Zo hb4;replace v0:=Zb hb4 v0;replace v1:=Zb hb4 v1;replace v2:=Zb hb4 v2;replace v3:=Zb hb4 v3;refine hK.out _ _ (fun _=>⟨v0,v1,v2,v3⟩) ?_;clear hK K
        try simp only [Act.put,Zgj,Zfx,Zge]
        refine Ze (i:=6) rfl (by kernel_rfl) (fun K hK=>?_);go_simp;refine (Zsb un um dna dnb uA uB A4 B4 uk uc uj ud n4 c4 m4 d4 _ _ wa4 hfu (hSf.out.below (hBj.trans (hb4.mono hBj.size))) true (decide_eq_true rfl)).mono ?_;rintro e wa5 ⟨rfl,hb5⟩;replace v0:=Zb hb5 v0;replace v1:=Zb hb5 v1;replace v2:=Zb hb5 v2;replace v3:=Zb hb5 v3;refine hK.out _ _ (fun _=>⟨v0,v1,v2,v3⟩) ?_;clear hK K
        try simp only [Act.put,Zgj,Zfx,Zge]
        refine Zfy 1 [7] rfl (by kernel_rfl) ⟨v0,v1,v2,v3⟩ ?_
        (refine tk1 (v:=?_) rfl (Or.inl ⟨by kernel_rfl,?_⟩) ?_;rotate_left;(· intro W2 _;go_simp;try with_reducible rfl);try simp only [Act.put,Zgj,Zfx,Zge,putG_a,putG_s,putG_z])
        refine tk0 ?_;refine Zk (by kernel_rfl) ?_ _;refine OnlyNormal.normal ?_;have hBa:=Za (hBj.trans ((hb4.trans (hb5.mono hb4.size)).mono hBj.size));clear hb4 hb5 hfu v0 v1 v2 v3 hBj;obtain ⟨gE,hgE⟩:∃ g,wa5.heap.size=g:=⟨_,rfl⟩;obtain ⟨VE,hVE,qE,hbE⟩:=Za2 (w:=wa5) 45 #[];rw [hgE] at qE;have hBE:=hBa.out.trans (hbE.mono hBa.out.size)
        have hgE2:w7.heap.size <= gE:=by rw [<- hgE];exact hBa.out.size
        have hOE:OwnF 45 VE w7.heap.size (.slice (some ⟨gE,0,none⟩) 0 0) []:=⟨[],.inr ⟨gE,0,rfl,hgE2,Nat.zero_le _,qE⟩,fun e h=>by simp at h,rfl⟩;obtain ⟨fs,hR,hfl,hfe,hfq⟩:=(hFX.out.below hBE).reads
        have hE3:([]:List Rat).length+j <= 1000:=by show 0+j <= 1000;omega
        have hsE:=hBE.size;replace hfe:=Za hfe;replace hE3:=Za hE3;replace hOE:=Za hOE;replace hR:=Za hR;replace hfq:=Za hfq;replace hfl:=Za hfl;clear hbE qE hBa;go_wp2_with ((try rw [hVE]);(try rw [hgE]);at_builtin;refine Zc6 _ rfl (.tmp 178) (.tmp 179) 40 rfl w7.heap.size 45 iF Tryz.underlying40 hi hz0 hz1 hz2 _ [] rfl hOE.out _ _ _ _ fs rfl hR.out hfl.out hfe.out hE3.out hsE ?_;intro v9 w9 hO9 hg9 hk9);have hB9:=hBE.grown hg9 hBE.size (fun k hk=>by cases hk;exact hgE2);rw [List.nil_append,hfq.out] at hO9
        rcases hO9.fown with ⟨-,hnilq⟩ | ⟨gy,cy,rfl,hgy,hcy1,hcy2,hF9⟩
        ·exfalso
         rw [hnilq] at hxl
         simp at hxl
         omega
        rw [hxl] at hcy1 ⊢
        have hF0:FOwn 45 w9 gy ((List.range j).map (yT (fun k=>xs[k]?.getD 0) ch 0)):=by
         rw [yT_zero,Ztf hxl];exact hF9
        replace hF0:=Za hF0;replace hB9:=Za hB9;unfold maxLen at hcy2;clear hO9 hF9 hg9 hk9 hBE hsE hE3 hR hfl hfe hfq hOE hgE2 hVE hgE
        go_loopg [24,25] j (fun k sv iv wr=>∃ t:Nat,t+k=j/\sv=.bool (Zgn ch t)/\iv=.int .i64 t/\Below w7.heap.size w7 wr/\FOwn 45 wr gy ((List.range j).map (yT (fun k=>xs[k]?.getD 0) ch t)))
        case atStart=>exact ⟨0,by omega,rfl,rfl,hB9.out,hF0.out⟩
        case round =>
         clear hB9 hF0;obtain ⟨t,htk,rfl,rfl,hBt,hFt⟩:=hrel
         have htj:t <= j:=by omega
         obtain ⟨b,hb⟩:∃ b,Zgn ch t=b:=⟨_,rfl⟩;obtain ⟨cq,hcq⟩:∃ c,Zh0 (Zby rs rr ws (fun k=>xs[k]?.getD 0) j n) (Zby rs rr ws (yT (fun k=>xs[k]?.getD 0) ch t) j n)=c:=⟨_,rfl⟩;have hcmp:=hX.out.cmp t htj;rw [hcq,hb] at hcmp;rw [hb]
         cases gk with
         | zero =>
          have htj2:t=j:=by omega
          have t10:decide ((t:Int) < (t:Int))=false:=by simp
          have t10':decide ((t:Int) < (j:Int))=false:=by rw [decide_eq_false_iff_not];omega
          replace htj2:=Za htj2
          have hyl:((List.range j).map (yT (fun k=>xs[k]?.getD 0) ch t)).length=j:=by simp
          have hFL:=hFt.fl (c:=cy) (by rw [hyl];exact hcy1) (by unfold maxLen;exact hcy2);rw [hyl] at hFL
          have hsy:SumP rs rr ws (fun k=>((List.range j).map (yT (fun k=>xs[k]?.getD 0) ch t))[k]?.getD 0) n j:=by rw [Zob hxl htj];exact hX.out.y t
          obtain ⟨ys,hys⟩:∃ ys,(List.range j).map (yT (fun k=>xs[k]?.getD 0) ch t)=ys:=⟨_,rfl⟩
          have hcq2:Zh0 (Zby rs rr ws (fun k=>xs[k]?.getD 0) j n) (Zby rs rr ws (fun k=>ys[k]?.getD 0) j n)=cq:=by rw [<- hys,Zob hxl htj];exact hcq
          rw [hys] at hFL hsy;obtain ⟨v0,v1,v2,v3,-⟩:=(Zc hBt qS.out).four;have sS:=hX.out.sum.sum n (Nat.le_refl _);have sY:=hsy.sum n (Nat.le_refl _);replace hcq2:=Za hcq2;replace hcq:=Za hcq;replace hys:=Za hys;replace hFL:=Za hFL;replace hsy:=Za hsy;replace hcmp:=Za hcmp;replace hb:=Za hb;replace hFt:=Za hFt;replace sS:=Za sS;replace sY:=Za sY;go_wp2_with fail;refine Zaj [] (fun wx=>wx.cell? ⟨gS,0,none⟩=some (.bool dna)/\wx.cell? ⟨gS,1,none⟩=some (.slice A4 n4 c4)/\wx.cell? ⟨gS,2,none⟩=some (.bool dnb)/\wx.cell? ⟨gS,3,none⟩=some (.slice B4 m4 d4)) hmx ⟨v0,v1,v2,v3⟩ (fun _=>?_);refine Zi4 1 [0] rfl (by kernel_rfl) ⟨v0,v1,v2,v3⟩ ?_
          (refine tk1 (v:=?_) rfl (Or.inl ⟨by kernel_rfl,?_⟩) ?_;rotate_left;(· intro W2 hSw;(try dsimp only at hSw);go_simp;try with_reducible rfl);try simp only [Act.put,Zgj,Zfx,Zge,putG_a,putG_s,putG_z])
          refine tk0 ?_;refine Zfy 4 [1,2,3,4] rfl (by kernel_rfl) ⟨v0,v1,v2,v3⟩ ?_
          iterate 4 (refine tk1 (v:=?_) rfl (Or.inl ⟨by kernel_rfl,?_⟩) ?_;rotate_left;(· intro W2 _;go_simp;try with_reducible rfl);try simp only [Act.put,Zgj,Zfx,Zge,putG_a,putG_s,putG_z])
          refine tk0 ?_;refine Ze (i:=5) rfl (by kernel_rfl) (fun K hK=>?_);go_simp;refine (Zov (some ⟨gA,oA,none⟩) B C n c d0 e0 j cy (some ⟨gy,0,none⟩) rs rr ws ys wr.drew (h.out.below (Zf hBt 1)) (hr.out.below (Zf hBt 1)) (hw.out.below (Zf hBt 1)) (hFL.out.below (Zf (Below.refl _ _) 1)) hrow.out hm0 (by omega) (by omega) hsy.out).mono ?_;rintro e wd4 ⟨hb4,un,uA,uk,uc,um,uB,uj,ud,rfl,hfu⟩;replace hb4:=Zo hb4;replace v0:=Zb hb4 v0;replace v1:=Zb hb4 v1;replace v2:=Zb hb4 v2;replace v3:=Zb hb4 v3;refine hK.out _ _ (fun _=>⟨v0,v1,v2,v3⟩) ?_;clear hK K
          try simp only [Act.put,Zgj,Zfx,Zge]
          refine Ze (i:=6) rfl (by kernel_rfl) (fun K hK=>?_);go_simp;refine (Zpp dna dnb un um A4 B4 uA uB n4 c4 m4 d4 uk uc uj ud _ _ wd4 (hSf.out.below (hBt.trans (hb4.mono hBt.size))) hfu sS.out sY.out).mono ?_;rintro e wd5 ⟨he5,hb5⟩;rw [hcq2.out] at he5;subst he5;replace v0:=Zb hb5 v0;replace v1:=Zb hb5 v1;replace v2:=Zb hb5 v2;replace v3:=Zb hb5 v3;refine hK.out _ _ (fun _=>⟨v0,v1,v2,v3⟩) ?_;clear hK K
          try simp only [Act.put,Zgj,Zfx,Zge]
          refine Zfy 5 [7,8,9,10,11] rfl (by kernel_rfl) ⟨v0,v1,v2,v3⟩ ?_
          iterate 5 (refine tk1 (v:=?_) rfl (Or.inl ⟨by kernel_rfl,?_⟩) ?_;rotate_left;(· intro W2 _;go_simp;try with_reducible rfl);try simp only [Act.put,Zgj,Zfx,Zge,putG_a,putG_s,putG_z])
          refine tk0 ?_;refine Zk (by kernel_rfl) ?_ _;refine OnlyNormal.normal ?_;have hBz:=Za (hBt.trans ((hb4.trans (hb5.mono hb4.size)).mono hBt.size));clear hb4 hb5 hfu v0 v1 v2 v3 hBt hFt
          cases b with
          | true =>
           obtain rfl:cq=0:=hcmp.out.1 rfl;go_wp2_with fail;go_ret;exact ⟨rfl,hB7.out.trans (hBz.out.mono hB7.out.size)⟩
          | false =>
           have hneg:=hcmp.out.2 rfl;have t12:decide (cq < 0)=true:=decide_eq_true hneg;replace hneg:=Za hneg;go_wp2_with fail;go_ret;exact ⟨rfl,hB7.out.trans (hBz.out.mono hB7.out.size)⟩
         | succ k' =>
          obtain rfl:k'=j - (t+1):=by omega
          have htj1:t < j:=by omega
          have t10':decide ((t:Int) < (j:Int))=true:=decide_eq_true (by omega)
          have bt:(t:Int) < (j:Int):=by omega
          by_cases htp:t < pl
          case neg =>
           have t11:decide ((t:Int) < (pl:Int))=false:=decide_eq_false (by omega)
           have hyl:((List.range j).map (yT (fun k=>xs[k]?.getD 0) ch t)).length=j:=by simp
           have hFL:=hFt.fl (c:=cy) (by rw [hyl];exact hcy1) (by unfold maxLen;exact hcy2);rw [hyl] at hFL
           have hsy:SumP rs rr ws (fun k=>((List.range j).map (yT (fun k=>xs[k]?.getD 0) ch t))[k]?.getD 0) n j:=by rw [Zob hxl htj];exact hX.out.y t
           obtain ⟨ys,hys⟩:∃ ys,(List.range j).map (yT (fun k=>xs[k]?.getD 0) ch t)=ys:=⟨_,rfl⟩
           have hcq2:Zh0 (Zby rs rr ws (fun k=>xs[k]?.getD 0) j n) (Zby rs rr ws (fun k=>ys[k]?.getD 0) j n)=cq:=by rw [<- hys,Zob hxl htj];exact hcq
           rw [hys] at hFL hsy;obtain ⟨v0,v1,v2,v3,-⟩:=(Zc hBt qS.out).four;have sS:=hX.out.sum.sum n (Nat.le_refl _);have sY:=hsy.sum n (Nat.le_refl _);replace hcq2:=Za hcq2;replace hcq:=Za hcq;replace hys:=Za hys;replace hFL:=Za hFL;replace hsy:=Za hsy;replace hcmp:=Za hcmp;replace hb:=Za hb;replace hFt:=Za hFt;replace sS:=Za sS;replace sY:=Za sY;go_wp2_with fail;refine Zaj [] (fun wx=>wx.cell? ⟨gS,0,none⟩=some (.bool dna)/\wx.cell? ⟨gS,1,none⟩=some (.slice A4 n4 c4)/\wx.cell? ⟨gS,2,none⟩=some (.bool dnb)/\wx.cell? ⟨gS,3,none⟩=some (.slice B4 m4 d4)) hmx ⟨v0,v1,v2,v3⟩ (fun _=>?_);refine Zi4 1 [0] rfl (by kernel_rfl) ⟨v0,v1,v2,v3⟩ ?_
           (refine tk1 (v:=?_) rfl (Or.inl ⟨by kernel_rfl,?_⟩) ?_;rotate_left;(· intro W2 hSw;(try dsimp only at hSw);go_simp;try with_reducible rfl);try simp only [Act.put,Zgj,Zfx,Zge,putG_a,putG_s,putG_z])
           refine tk0 ?_;refine Zfy 4 [1,2,3,4] rfl (by kernel_rfl) ⟨v0,v1,v2,v3⟩ ?_
           iterate 4 (refine tk1 (v:=?_) rfl (Or.inl ⟨by kernel_rfl,?_⟩) ?_;rotate_left;(· intro W2 _;go_simp;try with_reducible rfl);try simp only [Act.put,Zgj,Zfx,Zge,putG_a,putG_s,putG_z])
           refine tk0 ?_;refine Ze (i:=5) rfl (by kernel_rfl) (fun K hK=>?_);go_simp;refine (Zov (some ⟨gA,oA,none⟩) B C n c d0 e0 j cy (some ⟨gy,0,none⟩) rs rr ws ys wr.drew (h.out.below (Zf hBt 1)) (hr.out.below (Zf hBt 1)) (hw.out.below (Zf hBt 1)) (hFL.out.below (Zf (Below.refl _ _) 1)) hrow.out hm0 (by omega) (by omega) hsy.out).mono ?_;rintro e wd4 ⟨hb4,un,uA,uk,uc,um,uB,uj,ud,rfl,hfu⟩;replace hb4:=Zo hb4;replace v0:=Zb hb4 v0;replace v1:=Zb hb4 v1;replace v2:=Zb hb4 v2;replace v3:=Zb hb4 v3;refine hK.out _ _ (fun _=>⟨v0,v1,v2,v3⟩) ?_;clear hK K
           try simp only [Act.put,Zgj,Zfx,Zge]
           refine Ze (i:=6) rfl (by kernel_rfl) (fun K hK=>?_);go_simp;refine (Zpp dna dnb un um A4 B4 uA uB n4 c4 m4 d4 uk uc uj ud _ _ wd4 (hSf.out.below (hBt.trans (hb4.mono hBt.size))) hfu sS.out sY.out).mono ?_;rintro e wd5 ⟨he5,hb5⟩;rw [hcq2.out] at he5;subst he5;replace v0:=Zb hb5 v0;replace v1:=Zb hb5 v1;replace v2:=Zb hb5 v2;replace v3:=Zb hb5 v3;refine hK.out _ _ (fun _=>⟨v0,v1,v2,v3⟩) ?_;clear hK K
           try simp only [Act.put,Zgj,Zfx,Zge]
           refine Zfy 5 [7,8,9,10,11] rfl (by kernel_rfl) ⟨v0,v1,v2,v3⟩ ?_
           iterate 5 (refine tk1 (v:=?_) rfl (Or.inl ⟨by kernel_rfl,?_⟩) ?_;rotate_left;(· intro W2 _;go_simp;try with_reducible rfl);try simp only [Act.put,Zgj,Zfx,Zge,putG_a,putG_s,putG_z])
           refine tk0 ?_;refine Zk (by kernel_rfl) ?_ _;refine OnlyNormal.normal ?_;have hBz:=Za (hBt.trans ((hb4.trans (hb5.mono hb4.size)).mono hBt.size));clear hb4 hb5 hfu v0 v1 v2 v3 hBt hFt
           cases b with
           | true =>
            obtain rfl:cq=0:=hcmp.out.1 rfl;go_wp2_with fail;go_ret;exact ⟨rfl,hB7.out.trans (hBz.out.mono hB7.out.size)⟩
           | false =>
            have hneg:=hcmp.out.2 rfl;have t12:decide (cq < 0)=true:=decide_eq_true hneg;replace hneg:=Za hneg;go_wp2_with fail;go_ret;exact ⟨rfl,hB7.out.trans (hBz.out.mono hB7.out.size)⟩
          have t11:decide ((t:Int) < (pl:Int))=true:=decide_eq_true (by omega)
          have btp:(t:Int) < (pl:Int):=by omega
          obtain ⟨gD,oD,rfl,hcD⟩:=(hc.out.below hBt).2.2.2.2 (by omega);have kD:=hcD t htp;have hzb:=hch.out t;have hth:=hX.out.third t;have hsu:=hX.out.sum.xk t htj1
          have hcs:Zgn ch (t+1)=(b && decide (ch[t]?.getD 0=0)):=by rw [<- hb];rfl
          have hyl2:=yT_list (x:=(fun k=>xs[k]?.getD 0)) (ch:=ch) htj1;obtain ⟨zc,hzc⟩:∃ z,ch[t]?.getD 0=z:=⟨_,rfl⟩;rw [hzc] at kD hzb hth hcs hyl2;obtain ⟨hz1',hz2'⟩:=hzb
          have hwz:IntKind.i64.wrap zc=zc:=by rw [IntKind.wrap_i64];omega
          obtain ⟨xn,xA,xk,xc,xm,xB,xj,xd,hX4,hfx⟩:=(hFX.out.below hBt).at2 htj1;obtain ⟨x0,x1,x2,x3⟩:=hX4
          have hyl:((List.range j).map (yT (fun k=>xs[k]?.getD 0) ch t)).length=j:=by simp
          obtain ⟨yn,yA,yk,yc,ym,yB,yj,yd,y0,y1,y2,y3,-⟩:=hFt.at_ (i:=t) (by rw [hyl];exact htj1);have hgyl:=hFt.lt;replace hcs:=Za hcs;replace hyl2:=Za hyl2;replace hzc:=Za hzc;replace hcq:=Za hcq;replace hcmp:=Za hcmp;replace hb:=Za hb;replace hyl:=Za hyl;clear hcD;go_wp2_with fail;refine Zaj [17] (fun wx=>wx.cell? ⟨gX,oX+t * 4,none⟩=some (.bool xn)/\wx.cell? ⟨gX,oX+t * 4+1,none⟩=some (.slice xA xk xc)/\wx.cell? ⟨gX,oX+t * 4+2,none⟩=some (.bool xm)/\wx.cell? ⟨gX,oX+t * 4+3,none⟩=some (.slice xB xj xd)/\wx.cell? ⟨gD,oD+t,none⟩=some (.int .i8 zc)) hmx ⟨x0,x1,x2,x3,kD⟩ (fun _=>?_);refine Zfy 5 [0,1,2,3,4] rfl (by kernel_rfl) ⟨x0,x1,x2,x3,kD⟩ ?_
          iterate 5 (refine tk1 (v:=?_) rfl (Or.inl ⟨by kernel_rfl,?_⟩) ?_;rotate_left;(· intro W2 _;go_simp;try with_reducible rfl);try simp only [Act.put,Zgj,Zfx,Zge,putG_a,putG_s,putG_z])
          refine tk0 ?_;refine Zi4 1 [5] rfl (by kernel_rfl) ⟨x0,x1,x2,x3,kD⟩ ?_
          (refine tk1 (v:=?_) rfl (Or.inl ⟨by kernel_rfl,?_⟩) ?_;rotate_left;(· intro W2 hSw;(try dsimp only at hSw);go_simp;try with_reducible rfl);try simp only [Act.put,Zgj,Zfx,Zge,putG_a,putG_s,putG_z])
          refine tk0 ?_;refine Zfy 3 [6,7,8] rfl (by kernel_rfl) ⟨x0,x1,x2,x3,kD⟩ ?_
          iterate 3 (refine tk1 (v:=?_) rfl (Or.inl ⟨by kernel_rfl,?_⟩) ?_;rotate_left;(· intro W2 _;go_simp;try with_reducible rfl);try simp only [Act.put,Zgj,Zfx,Zge,putG_a,putG_s,putG_z])
          refine tk0 ?_;refine Zi4 1 [9] rfl (by kernel_rfl) ⟨x0,x1,x2,x3,kD⟩ ?_
          (refine tk1 (v:=?_) rfl (Or.inl ⟨by kernel_rfl,?_⟩) ?_;rotate_left;(· intro W2 hSw;(try dsimp only at hSw);go_simp;try with_reducible rfl);try simp only [Act.put,Zgj,Zfx,Zge,putG_a,putG_s,putG_z])
          refine tk0 ?_;refine Zg (i:=10) (v:=.int .i64 zc) rfl (by kernel_rfl) (by kernel_rfl) (by kernel_rfl) (by kernel_rfl) (Or.inl ⟨by kernel_rfl,?hy56⟩) (fun _=>⟨x0,x1,x2,x3,kD⟩) ?rest56
          case hy56=>(intro W2 _;go_simp;(try rw [hwz]);try with_reducible rfl)
          try simp only [Act.put,Zgj,Zfx,Zge,putG_a,putG_s,putG_z]
          refine Ze (i:=11) rfl (by kernel_rfl) (fun K hK=>?_);go_simp;refine (Zds zc 3 wr.drew (by omega) (by omega) (by decide) (by decide)).mono ?_;rintro e wc4 ⟨hb4,un,uA,uk,uc,um,uB,uj,ud,rfl,hfu⟩;replace hb4:=Zo hb4;replace x0:=Zb hb4 x0;replace x1:=Zb hb4 x1;replace x2:=Zb hb4 x2;replace x3:=Zb hb4 x3;replace kD:=Zb hb4 kD;refine hK.out _ _ (fun _=>⟨x0,x1,x2,x3,kD⟩) ?_;clear hK K
          try simp only [Act.put,Zgj,Zfx,Zge]
          refine Ze (i:=12) rfl (by kernel_rfl) (fun K hK=>?_);go_simp;refine (Zk3 xn xm un um xA xB uA uB xk xc xj xd uk uc uj ud _ _ wc4 (hfx.below hb4) hfu hsu hth).mono ?_;rintro e wc5 ⟨hb5,an,aA,ak,ac,am,aB,aj,ad,rfl,hfa⟩;replace x0:=Zb hb5 x0;replace x1:=Zb hb5 x1;replace x2:=Zb hb5 x2;replace x3:=Zb hb5 x3;replace kD:=Zb hb5 kD;refine hK.out _ _ (fun _=>⟨x0,x1,x2,x3,kD⟩) ?_;clear hK K
          try simp only [Act.put,Zgj,Zfx,Zge]
          refine Zfy 4 [13,14,15,16] rfl (by kernel_rfl) ⟨x0,x1,x2,x3,kD⟩ ?_
          iterate 4 (refine tk1 (v:=?_) rfl (Or.inl ⟨by kernel_rfl,?_⟩) ?_;rotate_left;(· intro W2 _;go_simp;try with_reducible rfl);try simp only [Act.put,Zgj,Zfx,Zge,putG_a,putG_s,putG_z])
          refine tk0 ?_;have hb45:=hb4.trans (hb5.mono hb4.size);have hF5:=hFt.below hb45;obtain ⟨qn,qA,qk,qc,qm,qB,qj,qd,g0,g1,g2,g3,-⟩:=hF5.at_ (i:=t) (by rw [hyl.out];exact htj1);have f0:=hF5.frozen (t * 4);have f1:=hF5.frozen (t * 4+1);have f2:=hF5.frozen (t * 4+2);have f3:=hF5.frozen (t * 4+3);obtain ⟨Z9,hZ9⟩:∃ W,setF wc5 gy t an aA ak ac am aB aj ad=W:=⟨_,rfl⟩
          have hF9:Hid (FOwn 45 Z9 gy ((List.range j).map (yT (fun k=>xs[k]?.getD 0) ch (t+1)))):=Za (by
           have h1:=hF5.set_ (i:=t) (by rw [hyl.out];exact htj1) hfa;have h2:=hyl2.out;(try dsimp only at h2);rw [h2] at h1;rw [<- hZ9]
           exact h1)
          have hBc:=hBt.trans (hb45.mono hBt.size);have hB9:Hid (Below w7.heap.size w7 Z9):=Za (by rw [<- hZ9];exact Zls hBc hgy)
          have hbz:Below w7.heap.size wr Z9:=by rw [<- hZ9];exact Zls (hb45.mono hBt.size) hgy
          unfold setF at hZ9;refine Zu (i:=17) rfl (by kernel_rfl) (by kernel_rfl) (fun K hK=>?_);go_simp;(try rw [hZ9]);refine hK.out _ _ ?_;clear hK K
          try simp only [Act.put,Zgj,Zfx,Zge]
          refine Zk (by kernel_rfl) ?_ _;refine OnlyNormal.normal ?_
          have kD2:Z9.cell? ⟨gD,oD+t,none⟩=some (.int .i8 zc):=by
           have h1:=(hc.out.below hB9.out).2.2.2.2 (by omega);obtain ⟨g',o',e',h2⟩:=h1
           cases e'
           rw [<- hzc.out];exact h2 t htp
          clear hb4 hb5 hb45 hF5 g0 g1 g2 g3 f0 f1 f2 f3 hZ9 hfu hfa x0 x1 x2 x3 kD hfx hFt hBt hBc hbz y0 y1 y2 y3
          cases b with
          | true =>
           go_wp2_with fail
           go_roundg (j - (t+1))
           case measure=>omega
           case rel=>exact ⟨t+1,by omega,by rw [hcs.out];first | rfl | (simp;done) | (simp;rfl),by go_num,hB9.out,hF9.out⟩
          | false =>
           go_wp2_with fail
           go_roundg (j - (t+1))
           case measure=>omega
           case rel=>exact ⟨t+1,by omega,by rw [hcs.out];first | rfl | (simp;done) | (simp;rfl),by go_num,hB9.out,hF9.out⟩
end Go.Proofs.YtigdclhagmnopaaGreat
