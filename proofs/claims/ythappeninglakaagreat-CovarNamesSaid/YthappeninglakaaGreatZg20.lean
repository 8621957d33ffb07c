/- Package covar: look, Check, made. Package covar: sum. The -/
import Derived.Test.YthappeninglakaaGreatZg19
set_option maxRecDepth 100000
set_option maxHeartbeats 8000000
set_option linter.unusedSimpArgs false
set_option linter.unusedVariables false
namespace Go.Proofs.YthappeninglakaaGreat
open Go.RowKit
open Nat renaming le_refl→Qa,lt_of_le_of_lt→Qh,lt_of_lt_of_le→Qi,le_succ→Qk,lt_irrefl→Qm,lt_or_ge→Qr
open Below renaming refl→Qb
open Act renaming put→Qc
open List renaming length_map→Qd,replicate→Qe,getElem?_map→Qf,mem_of_getElem?→Qg,getElem?_eq_getElem→Qj,map_cons→Qn,getElem_of_mem→Qo,getElem?_range→Qp,map_congr_left→Qq,map_nil→Qt
open Rat renaming mul_nonneg→Ql
open Kept renaming refl→Qs
open Int renaming toNat_natCast→Qu
attribute [local go_sem] Zg
def LookPost(rs:List RX)(w:World)(e:Ending)(w':World):Prop:=
 Below w.heap.size w w'/\((Zaf rs=0/\∃ v1 v2 L,e=.returned (.agg #[v1,v2])/\FacM 97 73 w' w.heap.size v1 v2 L (Zg7 (Zh (qM rs)) rs.length) (dsL (Zh (qM rs)) rs.length)) \/
  (Zaf rs≠0/\e=.panicked [{ v:=.iface 117 (.agg #[.int .i64 (Zaf rs)]),recovered:=false }]))
theorem LookPost.fall{rs:List RX}{w w':World}{E:Int}(hb:Below w.heap.size w w')(h:Zaf rs=E)(h0:E≠0):LookPost rs w (.panicked [{ v:=.iface 117 (.agg #[.int .i64 E]),recovered:=false }]) w':=by
 subst h;exact⟨hb,.inr ⟨h0,rfl⟩⟩
theorem Ze5(A:Option Addr)(n c:Nat)(rs:List RX)(w:World)(h:MXL w A n c rs)(hF:FacC rs) :
    Calls Tryz.prog 64 #[.slice A n c] w (LookPost rs w):=by
 have hmx:=Gt
 have hl:=Za h.1;have f6:=h.2.1;have e4:=h.2.2.1;unfold maxLen at e4;obtain⟨W0,a1,f,q0,s0⟩:=Zbe w 99 #[.slice none 0 0,.slice none 0 0];obtain⟨gx,a5⟩:=Gz w.heap.size;by_cases h6:6<n
 ·have t1:decide ((n:Int)<=6)=false:=Gu (by omega)
  have hE:Hid (Zaf rs=4):=Za (Zkf (by unfold long6;rw[hl.out,Gv h6];rfl));clear h;go_enter Tryz.func64,Tryz.ntmps64;go_wp2_with fail;(try rw[a1]);refine(Zad 4 W0).mono ?_;rintro e w6 ⟨rfl,rfl⟩;go_wp2_with fail;exact⟨rfl,LookPost.fall f hE.out (by decide)⟩
 have t1:decide ((n:Int)<=6)=true:=Gv (by omega);obtain⟨x,hx⟩:=Gz (rs.any RX.long6);have V:long6 rs=x:=by unfold long6;rw[hl.out,Gu h6,hx];rfl
 have hC:=Za (λW1 (hb:Below w.heap.size w W1)=>Zuv A n c rs W1 (h.below hb) x hx);replace hx:=Za hx;replace V:=Za V;cases x
 case true =>
  have hE:Hid (Zaf rs=4):=Za (Zkf V.out);clear h;go_enter Tryz.func64,Tryz.ntmps64;go_wp2_with fail;(try rw[a1]);refine(hC.out _ f).mono ?_;rintro e w1 ⟨rfl,T⟩;go_wp2_with fail;refine(Zad 4 w1).mono ?_;rintro e w6 ⟨rfl,rfl⟩;go_wp2_with fail;exact⟨rfl,LookPost.fall (f.trans (T.mono f.size)) hE.out (by decide)⟩
 by_cases a3:n=0
 ·subst a3
  have hE:Hid (Zaf rs=8):=Za (Zza V.out hl.out);clear h;go_enter Tryz.func64,Tryz.ntmps64;go_wp2_with fail;(try rw[a1]);refine(hC.out _ f).mono ?_;rintro e w1 ⟨rfl,T⟩;go_wp2_with fail;refine(Za9 4 w1).mono ?_;rintro e w1 ⟨rfl,rfl⟩;go_wp2_with fail;refine(Zad 8 w1).mono ?_;rintro e w6 ⟨rfl,rfl⟩;go_wp2_with fail;exact⟨rfl,LookPost.fall (f.trans (T.mono f.size)) hE.out (by decide)⟩
 have t2:decide ((0:Int)<(n:Int))=true:=Gv (by omega);have e9:decide (0<n)=true:=Gv (by omega);have hH:=Za h;have c4:=Za q0;replace a3:=Za a3;clear h q0;go_enter Tryz.func64,Tryz.ntmps64;go_wp2_with fail;(try rw[a1]);refine(hC.out _ f).mono ?_;rintro e w1 ⟨rfl,T⟩;have c9:=f.trans (T.mono f.size);have d3:=Za (Zc T c4.out);clear c4 hC T f a1 s0;go_wp2_with fail;refine(Za9 4 w1).mono ?_;rintro e w1 ⟨rfl,rfl⟩;go_wp2_with fail;refine(Za9 8 w1).mono ?_;rintro e w1 ⟨rfl,rfl⟩;go_wp2_with fail
 go_loopg [27] n (λt iv wr=>∃ i:Nat,i+t=n/\iv=.int .i64 i/\Hid (∀ j r,j<i->rs[j]?=some r->Zer rs.length r=true)/\Below w1.heap.size w1 wr)
 case atStart=>exact⟨0,by omega,rfl,Za (λj r hj=>by omega),Qb _ _⟩
 case round =>
  obtain⟨wi,rfl⟩:=Gy wr;obtain⟨i,e8,rfl,b4,a8⟩:=hrel;have U:=c9.trans (a8.mono c9.size);cases gk with
  | succ t =>
   obtain rfl:t=n-(i+1):=by omega
   have e2:i<n:=by omega
   have t3:decide ((i:Int)<(n:Int))=true:=Gv (by omega);have bi:(i:Int)<(n:Int):=by omega
   obtain⟨g,o,r,rfl,he,c0,hL⟩:=(hH.out.below U).at_ e2;have d8:=hL.nlenC;unfold maxLen at d8;have bad:Hid (Zer rs.length r=false->Zaf rs=8):=Za (λhf=>Zyp V.out (by rw[hl.out];exact a3.out) (Qg he) hf)
   have good:Hid (Zer rs.length r=true->∀ j r',j<i+1->rs[j]?=some r'->Zer rs.length r'=true):=Za (λhf j r' hj he'=>by
    rcases Qr j i with h'|h';exact b4.out j r' h' he'
    ·obtain rfl:j=i:=by omega
     rw[he]at he';cases he';exact hf)
   replace he:=Za he;by_cases hq:r.n=n
   case neg =>
    have t4:((r.n:Int) == (n:Int))=false:=beq_eq_false_iff_ne.2 (by omega);have d9:decide (r.n=n)=false:=by simpa using hq
    have hE:Hid (Zaf rs=8):=Za (bad.out (by unfold Zer;rw[hl.out,Gu hq];rfl));replace hq:=Za hq;clear hL;go_wp2_with fail;refine(Zad 8 wi).mono ?_;rintro e w6 ⟨rfl,rfl⟩;go_wp2_with fail;exact⟨rfl,LookPost.fall U hE.out (by decide)⟩
   have t4:((r.n:Int) == (n:Int))=true:=beq_iff_eq.2 (by omega);have d9:decide (r.n=n)=true:=by simpa using hq
   obtain⟨y,hy⟩:=Gz (Zdi r.es);have hV:=Za (λW1 (hb:Below wi.heap.size wi W1)=>Zk2 r.A r.n r.c r.es W1 (hL.below hb) y hy);have e6:=Za hq;replace hq:=Za hq;clear hL;cases y
   ·have hE:Hid (Zaf rs=8):=Za (bad.out (by unfold Zer;rw[hy];simp))
    clear hy;go_wp2_with fail;refine(hV.out _ (by first|exact Qb _ _|exact Zf (Qb _ _) _)).mono ?_;rintro e' w2 ⟨rfl,b9⟩;go_wp2_with fail;refine(Zad 8 w2).mono ?_;rintro e w6 ⟨rfl,rfl⟩;go_wp2_with fail;exact⟨rfl,LookPost.fall (U.trans (b9.mono U.size)) hE.out (by decide)⟩
   ·have b6:=Za (good.out (by unfold Zer;rw[hy,hl.out,e6.out,Gv rfl];rfl))
    clear hy;go_wp2_with fail;refine(hV.out _ (by first|exact Qb _ _|exact Zf (Qb _ _) _)).mono ?_;rintro e' w2 ⟨rfl,b9⟩;go_wp2_with fail;refine(Za9 8 w2).mono ?_;rintro e w2 ⟨rfl,rfl⟩;go_wp2_with fail
    go_roundg (n-(i+1))
    case measure=>omega
    case rel=>exact⟨i+1,by omega,by go_num,b6,a8.trans (b9.mono a8.size)⟩
  | zero =>
   obtain rfl:i=n:=by omega
   have t3:decide ((i:Int)<(i:Int))=false:=by simp
   have hV:Hid (covV rs):=Za ⟨V.out,by rw[hl.out];exact a3.out,by
    rw[List.all_eq_true];intro r hr;obtain⟨j,hj,e⟩:=Qo hr;exact b4.out j r (by rw[hl.out]at hj;exact hj) (by rw[Qj hj,e])⟩
   have c5:=Za (Zc a8 d3.out);have hM:=Za (hV.out.good (hH.out.below U));have c3:Hid (∀ a b,Sm (Zh (qM rs) a b)):=Za (λa b=>(hV.out.small64 hH.out).smC (by decide) a b);have a0:Hid (∀ a,a<i->((qM rs)[a]?.getD []).length=i):=Za (λa ha=>hV.out.row hH.out a ha);clear d3;go_wp2_with fail
   go_loopg [44] i (λt jv wr=>∃ j:Nat,j+t=i/\jv=.int .i64 j/\Hid (∀ a b,a<j->b<a->Zh (qM rs) a b=Zh (qM rs) b a)/\Below wi.heap.size wi wr)
   case atStart=>exact⟨0,by omega,rfl,Za (λa b ha=>by omega),Qb _ _⟩
   case round =>
    obtain⟨wj,rfl⟩:=Gy wr;obtain⟨j,f0,rfl,c8,C⟩:=hrel;have u:=U.trans (C.mono U.size);cases gk with
    | zero =>
     obtain rfl:j=i:=by omega
     have t4:decide ((j:Int)<(j:Int))=false:=by simp
     have hs:Hid (Zii (qM rs)=true):=Za (by
      unfold Zii;rw[decide_eq_true_eq];intro a ha b hb;rw[show (qM rs).length=j by unfold qM;rw[Qd,hl.out]]at ha;exact c8.out a b ha hb)
     have e0:Hid (FacP (Zh (qM rs)) j):=Za (by have:=hF hV.out hs.out;rw[hl.out]at this;exact this);go_wp2_with fail;refine(Zth A j c (qM rs) wj (hM.out.below C) (by omega) a0.out e0.out).mono ?_;rintro e w5 ⟨Y,⟨hp,v1,v2,L,rfl,a6⟩|⟨hn,rfl⟩⟩
     ·have I:=Zc (C.trans (Y.mono C.size)) c5.out
      rw[a5]at I;obtain⟨A1,c1,rfl,-⟩:=a6.1.mflA;obtain⟨A2,c2,rfl,-⟩:=a6.2.1.fl;rw[Zcx,Zel]at a6 ⊢;have y0:w5.cell? ⟨gx,0,none⟩=some (.slice none 0 0):=by rw[I.cell];rfl
      have y1:w5.cell? ⟨gx,1,none⟩=some (.slice none 0 0):=by rw[I.cell];rfl
      have z0:=I.frozen 0;have z1:=I.frozen 1;obtain⟨X,hX⟩:∃ X,(w5.setCell ⟨gx,0,none⟩ (.slice A1 j c1)).setCell ⟨gx,1,none⟩ (.slice A2 j c2)=X:=⟨_,rfl⟩;have b7:Kept (λk=>k=gx) w5 X:=by rw[<- hX];exact Kept.set_ (G:=λk=>k=gx) (Kept.set_ (G:=λk=>k=gx) (Qs _ _) (p:=⟨gx,0,none⟩) (.inl rfl) _) (p:=⟨gx,1,none⟩) (.inl rfl) _
      have b8:Blk X gx 99 #[.slice A1 j c1,.slice A2 j c2]:=by rw[<- hX];exact(I.set_ 0 (.slice A1 j c1)).set_ 1 (.slice A2 j c2)
      have x0:X.cell? ⟨gx,0,none⟩=some (.slice A1 j c1):=by rw[b8.cell];rfl
      have x1:X.cell? ⟨gx,1,none⟩=some (.slice A2 j c2):=by rw[b8.cell];rfl
      have d5:gx<wj.heap.size:=by have:=c5.out.lt;rw[a5]at this;have:=C.size;omega
      have e1:=Za (a6.box I (Zdv _ _ _ _ _ _) d5 b7);have d6:Hid (Zaf rs=0):=Za (hV.out.pos hs.out (by rw[hl.out];exact hp));have a2:Hid (Below w.heap.size w w5):=Za (u.trans (Y.mono u.size));have e3:Hid (Below w.heap.size w X):=Za (a2.out.trans (b7.to_below (λk e=>by omega) (by have:=a2.out.size;exact this)));have d7:Hid (w.heap.size<=wj.heap.size):=Za u.size;clear a6 b7 b8 I hp;(try rw[a5]);go_wp2_with fail;(try rw[a5]);(try rw[hX]);refine bodyPost_ret (v:=.agg #[.slice A1 j c1,.slice A2 j c2]) (by simp[results,Tryz.results64,go_sem,x0,x1,a5]) rfl ?_;refine⟨e3.out,.inl ⟨d6.out,_,_,L,rfl,?_⟩⟩;rw[hl.out];exact e1.out.lower d7.out
     ·have hE:Hid (Zaf rs=8):=Za (hV.out.neg hs.out (by rw[hl.out];exact hn))
      go_wp2_with fail;exact⟨rfl,LookPost.fall (u.trans (Y.mono u.size)) hE.out (by decide)⟩
    | succ t =>
     obtain rfl:t=i-(j+1):=by omega
     have b3:j<i:=by omega
     have t4:decide ((j:Int)<(i:Int))=true:=Gv (by omega);have bj:(j:Int)<(i:Int):=by omega
     obtain⟨g,o,A',n',c',rfl,c0,hR⟩:=(hM.out.below C).at_ b3;have e7:i=n':=by rw[<- hR.len];exact(a0.out j b3).symm
     subst e7;have b5:=hR.cap;unfold maxLen at b5;replace hR:=Za hR;go_wp2_with fail
     go_loopg [50] j (λt kv wr=>∃ k:Nat,k+t=j/\kv=.int .i64 k/\Hid (∀ b,b<k->Zh (qM rs) j b=Zh (qM rs) b j)/\Below wj.heap.size wj wr)
     case atStart=>exact⟨0,by omega,rfl,Za (λb hb=>by omega),Qb _ _⟩
     case round =>
      obtain⟨wk,rfl⟩:=Gy wr;obtain⟨k,f3,rfl,c7,a4⟩:=hrel;cases gk with
      | zero =>
       obtain rfl:k=j:=by omega
       have t5:decide ((k:Int)<(k:Int))=false:=by simp
       have d4:Hid (∀ a b,a<k+1->b<a->Zh (qM rs) a b=Zh (qM rs) b a):=Za (λa b ha hb=>by
        rcases Qr a k with h'|h';exact c8.out a b h' hb
        ·obtain rfl:a=k:=by omega
         exact c7.out b hb)
       go_wp2_with fail
       go_roundg (i-(k+1))
       case measure=>omega
       case rel=>exact⟨k+1,by omega,by go_num,d4,C.trans (a4.mono C.size)⟩
      | succ t' =>
       obtain rfl:t'=j-(k+1):=by omega
       have f4:k<j:=by omega
       have t5:decide ((k:Int)<(j:Int))=true:=Gv (by omega);have bk:(k:Int)<(j:Int):=by omega
       have bki:(k:Int)<(i:Int):=by omega
       have d0:=C.trans (a4.mono C.size);obtain⟨ga,oa,xn,xA,xk,xc,xm,xB,xj,xd,rfl,⟨r0,r1,r2,r3⟩,hX⟩:=(hR.out.below a4).at_ (show k<i by omega);obtain⟨A2,n2,c2,ck,a9⟩:=(hM.out.below d0).atS (show k<i by omega);have e5:i=n2:=by rw[<- a9.len];exact(a0.out k (by omega)).symm
       subst e5;have b2:=a9.cap;unfold maxLen at b2;obtain⟨gb,ob,yn,yA,yk,yc,ym,yB,yj,yd,rfl,⟨s0,s1,s2,s3⟩,hY⟩:=a9.at_ b3;have eX:((qM rs)[j]?.getD [])[k]?.getD 0=Zh (qM rs) j k:=rfl;have eY:((qM rs)[k]?.getD [])[j]?.getD 0=Zh (qM rs) k j:=rfl;rw[eX]at hX;rw[eY]at hY;replace hX:=Za hX;replace hY:=Za hY;clear eX eY a9;go_wp2_with fail;obtain⟨X0,a7⟩:=Gz wk.drew;have O:Below wk.heap.size wk X0:=by rw[<- a7];exact Zf (Qb _ _) 1
       have J:Hid (∀ wx,Below wk.heap.size wk wx->wx.cell? ⟨ga,oa+k*4,none⟩=some (.bool xn)/\wx.cell? ⟨ga,oa+k*4+1,none⟩=some (.slice xA xk xc)/\wx.cell? ⟨ga,oa+k*4+2,none⟩=some (.bool xm)/\wx.cell? ⟨ga,oa+k*4+3,none⟩=some (.slice xB xj xd)/\wx.cell? ⟨g,o+k,none⟩=some (.slice (some ⟨gb,ob,none⟩) i c2)/\wx.cell? ⟨gb,ob+j*4,none⟩=some (.bool yn)/\wx.cell? ⟨gb,ob+j*4+1,none⟩=some (.slice yA yk yc)/\wx.cell? ⟨gb,ob+j*4+2,none⟩=some (.bool ym)/\wx.cell? ⟨gb,ob+j*4+3,none⟩=some (.slice yB yj yd)):=Za (λwx hbx=>⟨Zb hbx r0,Zb hbx r1,Zb hbx r2,Zb hbx r3,Zb hbx ck,Zb hbx s0,Zb hbx s1,Zb hbx s2,Zb hbx s3⟩);refine wp_heldS [] hmx J (by rw[a7];exact O) (λhxs=>?_);rw[a7];refine Zjw 11 [0,1,2,3,4,5,6,7,8,9,10] rfl (by kernel_rfl) (J.out _ O) ?_
       iterate 11 (refine tkA ?_;try simp only[Qc,Zg4,Zgk,Zgx,Gr,Gq,Gp])
       refine tk0 ?_;refine wpAnyL_o 11 λK hK=>?_;go_simp;refine(fCmp_ok xn xm yn ym xA xB yA yB xk xc xj xd yk yc yj yd _ _ X0 (hX.out.below O) (hY.out.below O) (c3.out _ _) (c3.out _ _)).mono ?_;rintro e w5 ⟨rfl,Y⟩;have b1:=O.trans (Y.mono O.size);refine hK.out _ _ (λ_=>J.out _ b1) ?_;clear hK K
       try simp only[Qc,Zg4,Zgk,Zgx]
       refine Zgl 5 [12,13,14,15,16] rfl (by kernel_rfl) (J.out _ b1) ?_
       iterate 5 (refine tkA ?_;try simp only[Qc,Zg4,Zgk,Zgx,Gr,Gq,Gp])
       refine tk0 ?_;refine wpAnyL_fin ?_;have a2:Hid (Below wj.heap.size wj w5):=Za (a4.trans (b1.mono a4.size));clear J hxs O b1 Y a7 r0 r1 r2 r3 s0 s1 s2 s3 ck hX hY;by_cases hq:Zh (qM rs) j k=Zh (qM rs) k j
       ·have hz:cmpQ (Zh (qM rs) j k) (Zh (qM rs) k j)=0:=cmpQ_zero.2 hq
        rw[hz]
        have c6:Hid (∀ b,b<k+1->Zh (qM rs) j b=Zh (qM rs) b j):=Za (λb hb=>by
         rcases Qr b k with h'|h';exact c7.out b h'
         ·obtain rfl:b=k:=by omega
          exact hq)
        replace hq:=Za hq;replace hz:=Za hz;go_wp2_with fail;refine(Za9 8 w5).mono ?_;rintro e w5 ⟨rfl,rfl⟩;go_wp2_with fail
        go_roundg (j-(k+1))
        case measure=>omega
        case rel=>exact⟨k+1,by omega,by go_num,c6,a2.out⟩
       ·obtain⟨z,hz⟩:=Gz (cmpQ (Zh (qM rs) j k) (Zh (qM rs) k j))
        have b0:z≠0:=λe=>hq (cmpQ_zero.1 (by rw[hz];exact e));rw[hz];have t6:(z == 0)=false:=by simpa using b0
        have f5:decide (z=0)=false:=by simpa using b0
        have hE:Hid (Zaf rs=8):=Za (hV.out.asym (by
         cases hb:Zii (qM rs)with
         | false=>rfl
         | true=>exact absurd (symB_iff.1 hb j k (by unfold qM;rw[Qd,hl.out];exact b3) (by unfold qM;rw[Qd,hl.out];omega)) hq))
        replace hq:=Za hq;replace hz:=Za hz;replace b0:=Za b0;go_wp2_with fail;refine(Zad 8 w5).mono ?_;rintro e w6 ⟨rfl,rfl⟩;go_wp2_with fail;exact⟨rfl,LookPost.fall (u.trans (a2.out.mono u.size)) hE.out (by decide)⟩
theorem Zdq(A:Option Addr)(n c:Nat)(rs:List RX)(w:World)(h:MXL w A n c rs)(hF:FacC rs)(E:Int)(hE:Zaf rs=E) :
    Calls Tryz.prog 35 #[.slice A n c] w λe w'=>e=.returned (.int .i64 E)/\Below w.heap.size w w':=by
 obtain⟨W0,O,o,q0,s0⟩:=Zbe w 26 #[.int .i64 0];have hC:=Za (Ze5 A n c rs W0 (h.below o) hF);replace q0:=Za q0;clear h
 go_enter_defers Tryz.func35,Tryz.ntmps35
 go_wp2_with fail;(try rw[O]);refine hC.out.mono ?_;rintro e w1 ⟨u,⟨h0,v1,v2,L,rfl,I⟩|⟨h0,rfl⟩⟩
 ·have y:=o.trans (u.mono o.size)
  have q1:=Zc u q0.out;have e0:=q1.cell 0;have z0:=q1.frozen 0;simp at e0;obtain⟨U,hU,C,q3,-⟩:=Zy 0 y (Qa _) q1;have r4:=q3.cell 0;simp at r4;obtain rfl:E=0:=by rw[<- hE];exact h0
  clear I;go_wp2_with fail;(try rw[hU]);refine leaves_cons (f:=39) (args:=#[.pointer (some ⟨w.heap.size,0,none⟩)]) (by simp) (by simp[go_sem]) ?_;refine(Zc5 _ _).mono ?_;rintro e u' w'' ⟨rfl,rfl,rfl⟩;exact⟨.int .i64 0,by simp[results,Tryz.results35,go_sem,r4],rfl,C⟩
 ·have y:=o.trans (u.mono o.size)
  have q2:=Zc u q0.out;rw[hE];go_wp2_with fail;refine leaves_cons (f:=39) (args:=#[.pointer (some ⟨w.heap.size,0,none⟩)]) (by simp) (by simp[go_sem]) ?_;have e0:=q2.cell 0;simp at e0;refine(Z5 ⟨w.heap.size,0,none⟩ E 0 _ e0 (q2.frozen 0)).mono ?_;rintro e u' w'' ⟨rfl,rfl,hw⟩;obtain⟨V,hV,J,-,-,hk,sV⟩:=Zr 117 #[.int .i64 E] y (y.size);obtain⟨U,hU,C,q3,-⟩:=Zy E J (Qa _) (hk _ _ _ q2);rw[hV,hU]at hw;subst hw;have r4:=q3.cell 0;simp at r4;exact⟨.int .i64 E,by simp[results,Tryz.results35,go_sem,r4],rfl,C⟩
theorem Zor(A:Option Addr)(n c:Nat)(rs:List RX)(w:World)(h:MXL w A n c rs)(hF:FacC rs) :
    Calls Tryz.prog 46 #[.slice A n c] w λe w'=>Below w.heap.size w w'/\((Zaf rs=0/\e=.returned (.slice A n c)) \/ (Zaf rs≠0/\e=.panicked [{ v:=.iface 117 (.agg #[.int .i64 16]),recovered:=false }])):=by
 obtain⟨E,hE⟩:=Gz (Zaf rs);have hC:=Za (Zdq A n c rs w h hF E hE);clear h hF;replace hE:=Za hE;go_enter Tryz.func46,Tryz.ntmps46;go_wp2_with fail;refine hC.out.mono ?_;rintro e w1 ⟨rfl,f⟩;by_cases h0:E=0
 ·subst h0
  go_wp2_with fail;refine(Za9 16 w1).mono ?_;rintro e w1 ⟨rfl,rfl⟩;go_wp2_with fail;go_returns;exact⟨f,.inl ⟨hE.out,rfl⟩⟩
 ·have t1:(E == 0)=false:=by simpa using h0
  have o:decide (E=0)=false:=by simpa using h0
  replace h0:=Za h0;go_wp2_with fail;refine(Zad 16 w1).mono ?_;rintro e w6 ⟨rfl,rfl⟩;go_wp2_with fail;exact⟨rfl,f,.inr ⟨by rw[hE.out];exact h0.out,rfl⟩⟩
theorem Zlv(L:Option Addr)(k cap:Nat)(qs:List Rat)(w:World)(hl:FL w L k cap qs)(hk:k<=100)(hs:∀ j,j<k->Sm (Zsw qs j))(he:∀ j:Nat,j<k->Sm (qs[j]?.getD 0)) :
    Calls Tryz.prog 70 #[.slice L k cap] w (Zfj w (Zsw qs k)):=by
 have b2:=hl.cap;unfold maxLen at b2;obtain⟨W0,b0,Y,q1,s0⟩:=Zbe w 73 #[.bool false,.slice none 0 0,.bool false,.slice none 0 0];obtain⟨gR,T⟩:=Gz w.heap.size;rw[T]at q1 s0 Y;have c8:=Za hl;have b6:=Za hs;have c5:=Za he;clear hl hs he;go_enter Tryz.func70,Tryz.ntmps70;go_wp2_with fail;(try rw[b0]);(try rw[T]);refine(Zi9 0 W0 (by decide) (by decide)).mono ?_;rintro e w1 ⟨I,pn,pA,pk,pc,pm,pB,pj,pd,rfl,hf⟩;replace q1:=Zc I q1;obtain⟨V1,b8,a2,t0,tz⟩:=Zbe w1 73 #[.bool false,.slice none 0 0,.bool false,.slice none 0 0];obtain⟨g0,a5⟩:=Gz w1.heap.size;rw[a5]at t0 tz;obtain⟨u0,u1,u2,u3,v0,v1,v2,v3⟩:=t0.four;obtain⟨V2,b1,p2,b3,s2⟩:=Zbu pn pA pk pc pm pB pj pd t0;have O:Below w1.heap.size w1 V2:=a2.trans (b3.to_below (λk e=>by omega) a2.size);have hA:=Za (hf.below O);have c9:=Zc O q1;have a6:Hid (Below gR w w1):=Za (Y.trans (I.mono (by omega)));have b7:Hid (V2.heap.size=g0+1/\gR<g0):=Za ⟨by rw[s2,tz],by have:=I.size;omega⟩;have a8:Hid (Below gR w V2):=Za (a6.out.trans (O.mono (by have:=I.size;omega)));have V:=Za T;clear hf a2 b3 s2 tz O q1 I Y s0 b0;go_wp2_with fail;(try rw[a5]);(try rw[b1]);clear u0 u1 u2 u3 v0 v1 v2 v3 t0 b8 b1 a5 T
 go_loopg [9] k (λt iv wr=>∃ (i:Nat) (xn:Bool) (xA:Option Addr) (xk xc:Nat) (xm:Bool) (xB:Option Addr) (xj xd:Nat),i+t=k/\iv=.int .i64 i/\Blk wr g0 73 #[.bool xn,.slice xA xk xc,.bool xm,.slice xB xj xd]/\Hid (Fr wr xn xA xk xc xm xB xj xd (Zsw qs i))/\Kept (λk=>k=g0) V2 wr)
 case atStart=>exact⟨0,_,_,_,_,_,_,_,_,by omega,rfl,p2,hA,Qs _ _⟩
 case round =>
  obtain⟨i,xn,xA,xk,xc,xm,xB,xj,xd,d5,rfl,a0,hX,hK⟩:=hrel;have d3:=b7.out;have a1:=hK.blk c9 (by omega);have y:Below gR w wr:=a8.out.trans (hK.to_below (λk hk=>by omega) (by omega));obtain⟨x0,x1,x2,x3,y0,y1,y2,y3⟩:=a0.four;cases gk with
  | zero =>
   obtain rfl:i=k:=by omega
   have t1:decide ((i:Int)<(i:Int))=false:=by simp
   obtain⟨c0,c1,c2,c3,z0,z1,z2,z3⟩:=a1.four;obtain⟨W5,a4,q5,u,s5⟩:=Zbu xn xA xk xc xm xB xj xd a1;go_wp2_with fail;(try rw[a4]);obtain⟨r0,r1,r2,r3,-⟩:=q5.four;refine bodyPost_ret (v:=.agg #[.bool xn,.slice xA xk xc,.bool xm,.slice xB xj xd]) (by simp[results,Tryz.results70,go_sem,r0,r1,r2,r3]) rfl ?_;refine⟨?_,_,_,_,_,_,_,_,_,rfl,hX.out.keptN u a1 (Zb1 _ _ _ _ _ _ _ _)⟩;rw[V.out];exact y.trans (u.to_below (λk e=>by omega) (by have:=y.size;have:=hK.size;omega))
  | succ t =>
   obtain rfl:t=k-(i+1):=by omega
   have a3:i<k:=by omega
   have t1:decide ((i:Int)<(k:Int))=true:=Gv (by omega);have bi:(i:Int)<(k:Int):=by omega
   obtain⟨gl,o,yn,yA,yk,yc,ym,yB,yj,yd,rfl,⟨c0,c1,c2,c3⟩,hY⟩:=(c8.out.below (V.out▸y)).at_ a3;obtain⟨W1,d8,f,p1,s1⟩:=Zbe wr 73 #[.bool false,.slice none 0 0,.bool false,.slice none 0 0];obtain⟨gn,d0⟩:=Gz wr.heap.size;rw[d0]at p1 s1;have d4:=Zc f a0;obtain⟨u0,u1,u2,u3,v0,v1,v2,v3⟩:=p1.four;obtain⟨W2,b5,b4,a7,d7⟩:=Zbu yn yA yk yc ym yB yj yd p1;have h:Below wr.heap.size wr W2:=f.trans (a7.to_below (λk e=>by omega) f.size);have b9:=hX.out.below h;have c6:=hY.below h;have U:=Zc h a0;obtain⟨m0,m1,m2,m3,n0,n1,n2,n3⟩:=U.four;obtain⟨o0,o1,o2,o3,-⟩:=b4.four;have e0:=Zb f c0;have e1:=Zb f c1;have e2:=Zb f c2;have e3:=Zb f c3;go_wp2_with fail;(try rw[b5]);go_wp2_with fail;refine(fAdd_ok xn xm yn ym xA xB yA yB xk xc xj xd yk yc yj yd _ _ W2 b9 c6 (b6.out i a3) (c5.out i a3)).mono ?_;rintro e w3 ⟨C,rn,rA,rk,rc,rm,rB,rj,rd,rfl,hf⟩;go_wp2_with fail;refine(Zf6 rn rm rA rB rk rc rj rd _ w3 hf).mono ?_;rintro e w4 ⟨a9,sn,sA,sk,sc,sm,sB,sj,sd,rfl,hr⟩;have J:=Zc a9 (Zc C U);obtain⟨e8,e5,e6,e9,d6,e7,d9,e4⟩:=J.four;obtain⟨W5,a4,q5,u,s5⟩:=Zbu sn sA sk sc sm sB sj sd J;clear x0 x1 x2 x3 y0 y1 y2 y3 m0 m1 m2 m3 n0 n1 n2 n3 o0 o1 o2 o3 u0 u1 u2 u3 v0 v1 v2 v3 e0 e1 e2 e3 c0 c1 c2 c3;go_wp2_with fail;(try rw[a4]);have c4:=Za (hr.keptN u J (Zb1 _ _ _ _ _ _ _ _));have c7:Kept (λk=>k=g0) V2 W5:=((hK.below h).below (C.trans (a9.mono C.size))).trans u
   go_roundg (k-(i+1))
   case measure=>omega
   case rel=>exact⟨i+1,_,_,_,_,_,_,_,_,by omega,by go_num,q5,c4,c7⟩
section
variable{A:Nat->Nat->Rat}{n c:Nat}
def brd(A:Nat->Nat->Rat)(x:Nat->Rat)(n:Nat):Nat->Nat->Rat:=λi k=>if i<n then (if k<n then A i k else x i)else (if k<n then x k else 0)
theorem Zzu(x:Nat->Rat){t i k:Nat}(ht:t<=n)(hi:i<n)(hk:k<n):Z6 (brd A x n) t i k=Z6 A t i k:=Zc8 (n:=n) (m:=n) (λi k hi hk=>by unfold brd;rw[Gx hi,Gx hk]) (Qa _) t i k ht hi hk
theorem brd_d(x:Nat->Rat){t:Nat}(ht:t<n):dQ (brd A x n) t=dQ A t:=Zzu x (by omega) ht ht
theorem brd_l(x:Nat->Rat){i t:Nat}(hi:i<n)(ht:t<n):lQ (brd A x n) i t=lQ A i t:=by unfold lQ;rw[brd_d x ht,Zzu x (by omega) hi ht]
theorem Z0w(hA:∀ i k,i<n->k<n->A i k=A k i)(x:Nat->Rat):∀ i k,i<n+1->k<n+1->brd A x n i k=brd A x n k i:=λi k hi hk=>by
 unfold brd;by_cases h1:i<n <;> by_cases h2:k<n;rw[Gx h1,Gx h2,Gx h2,Gx h1,hA i k h1 h2];rw[Gx h1,Gw h2,Gw h2,Gx h1];rw[Gw h1,Gx h2,Gx h2,Gw h1];rw[Gw h1,Gw h2,Gw h2,Gw h1]
theorem Zvy(hA:∀ i k,i<n->k<n->A i k=A k i)(x:Nat->Rat):∀ t,t<=n->Z6 (brd A x n) t n n=- Zax t (λs=>Z6 (brd A x n) s s n*Z6 (brd A x n) s s n/dQ (brd A x n) s)
 | 0,_=>by
  show brd A x n n n=-0;unfold brd;rw[Gw (Qm _),Gw (Qm _)]
  grind
 | t+1,ht=>by
  rw[Zfe (by omega),Zvy hA x t (by omega),Zfh (Z0w hA x) t n t (by omega) (Qa _) (by omega) (by omega)];show _=-(Zax t _+Z6 (brd A x n) t t n*Z6 (brd A x n) t t n/dQ (brd A x n) t);unfold dQ;rw[Rat.div_def (Z6 (brd A x n) t t n),Rat.div_def (Z6 (brd A x n) t t n*Z6 (brd A x n) t t n)]
  grind
end
def zV(A:Nat->Nat->Rat)(n:Nat)(x:Nat->Rat)(s:Nat):Rat:=Z6 (brd A x n) s s n
def bil(A:Nat->Nat->Rat)(n:Nat)(x y:Nat->Rat):Rat:=Zax n (λs=>zV A n x s*zV A n y s/dQ A s)
section
variable{A:Nat->Nat->Rat}{n:Nat}
theorem Zyz(x y:Nat->Rat):bil A n x y=bil A n y x:=by
 unfold bil;exact Zan λs _=>by rw[Rat.mul_comm]
theorem Zow{x y z:Nat->Rat}(h:∀ i,i<n->x i=y i):bil A n x z=bil A n y z:=by
 unfold bil;refine Zan λs hs=>?_
 have h1:zV A n x s=zV A n y s:=by
  unfold zV
  exact Zc8 (n:=n) (m:=n+1) (λi k hi hk=>by
   unfold brd;rw[Gx hi,Gx hi]
   split
   rfl
   ·exact h i hi) (by omega) s s n (by omega) hs (by omega)
 rw[h1]
end
structure Zry (A:Nat->Nat->Rat) (n:Nat) (x:Nat->Rat):Prop where
 a:∀ t i,t<=i->i<n->Sm (Z6 (brd A x n) t i n)
 l:∀ i t,t<i->i<n->Sm (lQ A i t)
 ly:∀ i t,t<i->i<n->Sm (lQ A i t*Z6 (brd A x n) t t n)
 zz:∀ i,i<n->Sm (zV A n x i*zV A n x i)
 d:∀ i,i<n->Sm (dQ A i)
 q:∀ i,i<n->Sm (zV A n x i*zV A n x i/dQ A i)
 s:∀ i,i<=n->Sm (Zax i (λs=>zV A n x s*zV A n x s/dQ A s))
def zL(A:Nat->Nat->Rat)(n:Nat)(x:Nat->Rat)(i:Nat):List Rat:=(List.range i).map (zV A n x)
section
variable{A:Nat->Nat->Rat}{n i k:Nat}{x:Nat->Rat}
theorem Ztb:(zL A n x i).length=i:=by simp[zL]
theorem zL_at(h:k<i):(zL A n x i)[k]?.getD 0=zV A n x k:=by simp[zL,h]
theorem zL_succ:zL A n x (i+1)=zL A n x i ++ [zV A n x i]:=by simp[zL,List.range_succ]
theorem Zom(hki:k<i)(hi:i<n):Z6 (brd A x n) (k+1) i n=Z6 (brd A x n) k i n-lQ A i k*zV A n x k:=by
 rw[Zx2 hki,brd_l x hi (by omega)];rfl
end
theorem sumF2(s q:Rat):Zsw [s,q] 2=s+q:=by
 show (0+s)+q=_
 grind
theorem Zdg{a b:Rat}(h:Sm a):∀ j,j<1->Sm (Zg9 a [b] j):=λj hj=>by
 obtain rfl:j=0:=by omega
 exact h
theorem Zeo{b:Rat}(h:Sm b):∀ j:Nat,j<1->Sm ([b][j]?.getD 0):=λj hj=>by
 obtain rfl:j=0:=by omega
 exact h
theorem Zp7{a b:Rat}(h:Sm a):∀ j,j<2->Sm (Zsw [a,b] j):=λj hj=>by
 rcases(show j=0 \/ j=1 by omega)with rfl|rfl;exact(SmN.int (i:=2) (n:=0) (by decide +kernel)).sm (by decide) (by decide)
 ·have e:Zsw [a,b] 1=a:=by
    show 0+a=a
    grind
  rw[e];exact h
theorem Zs3{a b:Rat}(h:Sm a)(k:Sm b):∀ j:Nat,j<2->Sm ([a,b][j]?.getD 0):=λj hj=>by
 rcases(show j=0 \/ j=1 by omega)with rfl|rfl;exact h;exact k
theorem Zfw(a b:Rat):Zg9 a [b] 1=a*b:=rfl
theorem Zyw(A1 A2 V:Option Addr)(n c1 c2 cv:Nat)(AQ:Nat->Nat->Rat)(xs:List Rat)(w:World)(hn6:n<=6)(hM:MFL w A1 n c1 (Zg7 AQ n))(hD:FL w A2 n c2 (dsL AQ n))(hV:FL w V n cv xs)(hp:posP AQ n)(hS:Zry AQ n (λi=>xs[i]?.getD 0)) :
    Calls Tryz.prog 66 #[.agg #[.slice A1 n c1,.slice A2 n c2],.slice V n cv] w (Zfj w (bil AQ n (λi=>xs[i]?.getD 0) (λi=>xs[i]?.getD 0))):=by
 obtain⟨iN,hi,s9,u0,t0⟩:=info_parts Zlk;have hmx:=Gt
 have o5:=hV.cap;have u7:=hM.2.1;have l8:=hM.2.2.1;have n3:=hD.cap;unfold maxLen at o5 l8 n3;obtain⟨X,m4⟩:∃ X:Nat->Rat,(λi:Nat=>xs[i]?.getD 0)=X:=⟨_,rfl⟩;have hxs:Hid (∀ i:Nat,xs[i]?.getD 0=X i):=Za (λi=>by rw[<- m4]);rw[m4]at hS ⊢;replace hS:=Za hS;replace hp:=Za hp;clear m4;obtain⟨W0,r6,h1,⟨qf,qr⟩,s0⟩:=Zdb w 99 #[.slice A1 n c1,.slice A2 n c2] 73 #[.bool false,.slice none 0 0,.bool false,.slice none 0 0];obtain⟨gf,k6⟩:=Gz w.heap.size;replace hM:=Za (hM.below h1);replace hD:=Za (hD.below h1);replace hV:=Za (hV.below h1);rw[k6]at qf qr s0;replace h1:=Za h1;replace qf:=Za qf;replace qr:=Za qr;have w4:=Za s0;clear s0;go_enter Tryz.func66,Tryz.ntmps66;go_wp2_with fail;(try rw[r6]);(try rw[k6]);clear r6;replace k6:=Za k6;refine(Zi9 0 W0 (by decide) (by decide)).mono ?_;rintro e w1 ⟨i1,sn,sA,sk,sc,sm,sB,sj,sd,rfl,sf⟩;replace hM:=Za (hM.out.below i1);replace hD:=Za (hD.out.below i1);replace hV:=Za (hV.out.below i1);replace qf:=Za (Zc i1 qf.out);replace qr:=Za (Zc i1 qr.out);have l5:=Za (h1.out.trans (i1.mono h1.out.size));clear h1;clear i1;replace sf:=Za sf;have s7:=hM;have u4:=hD;have t3:=hV;have j4:=l5;have r4:=qf;have p2:=qr;clear hM hD hV;obtain⟨g3,g7⟩:=Gz w1.heap.size;obtain⟨V5,n9,q7,g0⟩:=Zq (w:=w1) 73 #[.bool sn,.slice sA sk sc,.bool sm,.slice sB sj sd];rw[g7]at q7;have l9:=Za g0;replace qf:=Za (Zc g0 qf.out);replace qr:=Za (Zc g0 qr.out)
 replace sf:=Za (sf.out.below g0);have w3:=Za (l5.out.trans (g0.mono l5.out.size));clear l5;clear g0;replace q7:=Za q7;have o3:Hid (w1.heap.size+1=V5.heap.size):=Za (by rw[<- n9];simp);go_wp2_with fail;(try rw[g7]);(try rw[n9]);clear n9;replace g7:=Za g7;have p6:Hid (Zax 0 (λs=>zV AQ n X s*zV AQ n X s/dQ AQ s)=((0:Int):Rat)):=Za rfl;replace sf:Hid (Fr V5 sn sA sk sc sm sB sj sd (Zax 0 (λs=>zV AQ n X s*zV AQ n X s/dQ AQ s))):=Za (by rw[p6.out];exact sf.out)
 have q0:Hid (V5.heap.size=g3+1/\gf+1<g3):=Za ⟨by
  have h2:=g7.out;have h3:=o3.out;omega,by
  have h2:=g7.out;have h5:=p2.out.lt;omega⟩
 clear p6 qf qr
 go_loopg [6,7,8,9,10,11,15] n (λt yv v7 v8 v9 v10 v11 iv wr=>∃ (i:Nat) (sn:Bool) (sA:Option Addr) (sk sc:Nat) (sm:Bool) (sB:Option Addr) (sj sd:Nat),i+t=n/\iv=.int .i64 i/\Hid (OwnF 73 wr V5.heap.size yv (zL AQ n X i))/\Hid (Blk wr g3 73 #[.bool sn,.slice sA sk sc,.bool sm,.slice sB sj sd])/\Hid (Fr wr sn sA sk sc sm sB sj sd (Zax i (λs=>zV AQ n X s*zV AQ n X s/dQ AQ s)))/\Hid (Kept (λk=>k=g3) V5 wr))
 case atStart=>exact⟨0,_,_,_,_,_,_,_,_,by omega,rfl,Za (OwnF.nil _ _ _),q7,sf,Za (Qs _ _)⟩
 case round =>
  obtain⟨wi,rfl⟩:=Gy wr;clear q7 sf;obtain⟨i,sn,sA,sk,sc,sm,sB,sj,sd,x4,rfl,hO,qs,hs,hK⟩:=hrel;have h4:Hid (Below w1.heap.size w1 wi):=Za (l9.out.trans (hK.out.to_below (λk e=>by rw[e];exact Nat.le_of_eq g7.out) l9.out.size));have v6:=h4.out.size;obtain⟨x5,w8⟩:=q0.out;have w6:=hK.out.size;have p9:w1.heap.size=g3:=g7.out;obtain⟨Ay,cy,ey,j8⟩:=hO.out.fl;rw[Ztb]at ey j8;subst ey;have t8:=j8.cap;unfold maxLen at t8;replace j8:=Za j8;replace p9:=Za p9;cases gk with
  | zero =>
   obtain rfl:i=n:=by omega
   have t1:decide ((i:Int)<(i:Int))=false:=by simp
   have qR:=Zc h4.out p2.out;obtain⟨c0,c1,c2,c3,z0,z1,z2,z3⟩:=qR.four;obtain⟨x0,x1,x2,x3,-⟩:=qs.out.four;obtain⟨W5,i2,q5,f9,s5⟩:=Zbu sn sA sk sc sm sB sj sd qR;go_wp2_with fail;(try rw[i2]);obtain⟨r0,r1,r2,r3,-⟩:=q5.four;refine bodyPost_ret (v:=.agg #[.bool sn,.slice sA sk sc,.bool sm,.slice sB sj sd]) (by simp[results,Tryz.results66,go_sem,r0,r1,r2,r3]) rfl ?_;refine⟨?_,_,_,_,_,_,_,_,_,rfl,hs.out.keptN f9 qR (Zb1 _ _ _ _ _ _ _ _)⟩;exact(j4.out.trans (h4.out.mono j4.out.size)).trans (f9.to_below (λk e=>by have:=k6.out;omega) (by have:=j4.out.size;omega))
  | succ t' =>
   obtain rfl:t'=n-(i+1):=by omega
   have d7:i<n:=by omega
   have t1:decide ((i:Int)<(n:Int))=true:=Gv (by omega);have bi:(i:Int)<(n:Int):=by omega
   obtain⟨gv,ov,fn,fA,fk,fc,fm,fB,fj,fd,rfl,⟨f0,f1,f2,f3⟩,hf⟩:=(t3.out.below h4.out).at_ d7;rw[hxs.out]at hf;obtain⟨V8,j5,q8,g0⟩:=Zq (w:=wi) 41 #[.bool fn,.slice fA fk fc,.bool fm,.slice fB fj fd];obtain⟨V9,j6,q9,q6⟩:=Zq (w:=V8) 73 #[.bool fn,.slice fA fk fc,.bool fm,.slice fB fj fd];obtain⟨g8,k5⟩:=Gz wi.heap.size;have o2:V8.heap.size=g8+1:=by rw[<- j5,<- k5];simp
   have o6:V9.heap.size=g8+1+1:=by rw[<- j6,<- o2];simp
   rw[o2]at q9;have j0:Below wi.heap.size wi V9:=g0.trans (q6.mono g0.size)
   have s6:Hid (Fr V9 fn fA fk fc fm fB fj fd (Z6 (brd AQ X n) 0 i n)):=Za (by
    have e:Z6 (brd AQ X n) 0 i n=X i:=by
     show brd AQ X n i n=X i;unfold brd;rw[Gx d7,Gw (Qm _)]
    rw[e];exact hf.below j0)
   replace j0:=Za j0;replace q9:=Za q9;replace k5:=Za k5;replace j5:=Za j5;replace j6:=Za j6;replace o6:=Za o6;clear q8 g0 q6 o2 hf;go_wp2_with fail;rw[j5.out,k5.out,j6.out];clear j5 j6 f0 f1 f2 f3
   go_loopg [10,11,24] i (λt v10 v11 kv wk=>∃ (k:Nat) (an:Bool) (aA:Option Addr) (ak ac:Nat) (am:Bool) (aB:Option Addr) (aj ad:Nat),k+t=i/\kv=.int .i64 k/\Hid (Blk wk (g8+1) 73 #[.bool an,.slice aA ak ac,.bool am,.slice aB aj ad])/\Hid (Fr wk an aA ak ac am aB aj ad (Z6 (brd AQ X n) k i n))/\Hid (Kept (λk=>k=g8+1) V9 wk))
   case atStart=>exact⟨0,_,_,_,_,_,_,_,_,by omega,rfl,q9,s6,Za (Qs _ _)⟩
   case round =>
    clear q9 s6;obtain⟨wk,rfl⟩:=Gy wr;obtain⟨k,an,aA,ak,ac,am,aB,aj,ad,v4,rfl,qa,hA,f5⟩:=hrel;have v3:=k5.out;have u9:=o6.out;have h6:Hid (Below wi.heap.size wi wk):=Za (j0.out.trans (f5.out.to_below (λk e=>by omega) (by omega)));have m2:Hid (Below w1.heap.size w1 wk):=Za (h4.out.trans (h6.out.mono h4.out.size));have v5:=h6.out.size;cases gk with
    | succ t' =>
     obtain rfl:t'=i-(k+1):=by omega
     have g4:k<i:=by omega
     have t2:decide ((k:Int)<(i:Int))=true:=Gv (by omega);have bk:(k:Int)<(i:Int):=by omega
     obtain⟨gy,oy,bn,bA,l6,bc,bm,bB,bj,bd,rfl,⟨b0,b1,b2,b3⟩,hb⟩:=(j8.out.below h6.out).at_ g4;rw[zL_at g4]at hb;obtain⟨gm,om,Ar,nr,cr,m5,m0,hR⟩:=(s7.out.below m2.out).at_ d7;subst m5;rw[Zmm d7]at hR;obtain rfl:i=nr:=by rw[<- hR.len,Zf7]
     have u2:=hR.cap;unfold maxLen at u2;obtain⟨gr,or_,ln,lA,lk,lc,lm,lB,lj,ld,rfl,⟨l0,l1,l2,l3⟩,hl⟩:=hR.at_ g4;rw[Zlq g4]at hl;clear hR;have f7:=Za hb;have n4:=Za hl;have f6:=Za (Zc m2.out r4.out);clear hb hl;obtain⟨f4,g2⟩:=Gz wk.heap.size;obtain⟨c8,j9,c7,d8⟩:=Zq (w:=wk) 73 #[.bool bn,.slice bA l6 bc,.bool bm,.slice bB bj bd];rw[g2]at c7;replace qa:=Za (Zc d8 qa.out);replace hA:=Za (hA.out.below d8);replace f5:=Za (f5.out.below d8);replace f7:=Za (f7.out.below d8);replace n4:=Za (n4.out.below d8);replace f6:=Za (Zc d8 f6.out);have g5:=Za (h6.out.trans (d8.mono h6.out.size));clear h6;clear d8;replace c7:=Za c7;go_wp2_with fail;(try rw[g2]);(try rw[j9]);clear j9;replace g2:=Za g2;have n6:Hid (Below w1.heap.size w1 c8):=Za (h4.out.trans (g5.out.mono h4.out.size));obtain⟨w0,w5,w2,u3,u6,m5,m1,hR⟩:=(s7.out.below n6.out).at_ d7;cases m5;rw[Zmm d7]at hR;obtain rfl:i=u3:=by rw[<- hR.len,Zf7]
     have o8:=hR.cap;unfold maxLen at o8;obtain⟨k2,j7,p4,p0,s4,p5,p7,s8,q1,q3,u8,⟨e4,e2,e5,e0⟩,m9⟩:=hR.at_ g4;subst u8;rw[Zlq g4]at m9;have g9:=Za m9;clear m9 hR m0 l0 l1 l2 l3 n4;have b5:c8.cell? ⟨g8+1,0,none⟩=some (.bool an):=qa.out.cell 0;have b9:c8.cell? ⟨g8+1,1,none⟩=some (.slice aA ak ac):=qa.out.cell 1;have b8:c8.cell? ⟨g8+1,2,none⟩=some (.bool am):=qa.out.cell 2;have a8:c8.cell? ⟨g8+1,3,none⟩=some (.slice aB aj ad):=qa.out.cell 3;have a9:c8.cell? ⟨f4,0,none⟩=some (.bool bn):=c7.out.cell 0;have c4:c8.cell? ⟨f4,1,none⟩=some (.slice bA l6 bc):=c7.out.cell 1;have b7:c8.cell? ⟨f4,2,none⟩=some (.bool bm):=c7.out.cell 2;have b6:c8.cell? ⟨f4,3,none⟩=some (.slice bB bj bd):=c7.out.cell 3;have b4:c8.cell? ⟨gf,0,none⟩=some (.slice (some ⟨gm,om,none⟩) n c1):=f6.out.cell 0;have I:Below c8.heap.size c8 c8.drew:=Zf (Qb _ _) 1;replace qa:=Za (Zc I qa.out);replace hA:=Za (hA.out.below I);replace f5:=Za (f5.out.below I);replace f7:=Za (f7.out.below I);replace f6:=Za (Zc I f6.out);replace c7:=Za (Zc I c7.out);replace g9:=Za (g9.out.below I);have i7:=Za (g5.out.trans (I.mono g5.out.size));clear g5;replace m1:=Zb I m1;replace e4:=Zb I e4;replace e2:=Zb I e2;replace e5:=Zb I e5;replace e0:=Zb I e0;replace b5:=Zb I b5
     replace b9:=Zb I b9;replace b8:=Zb I b8;replace a8:=Zb I a8;replace a9:=Zb I a9;replace c4:=Zb I c4;replace b7:=Zb I b7;replace b6:=Zb I b6;replace b4:=Zb I b4;clear I;refine Z7 [13] (λwx=>(wx.cell? ⟨gm,om+i,none⟩=some (.slice (some ⟨k2,j7,none⟩) i u6))/\(wx.cell? ⟨k2,j7+k*4,none⟩=some (.bool p4))/\(wx.cell? ⟨k2,j7+k*4+1,none⟩=some (.slice p0 s4 p5))/\(wx.cell? ⟨k2,j7+k*4+2,none⟩=some (.bool p7))/\(wx.cell? ⟨k2,j7+k*4+3,none⟩=some (.slice s8 q1 q3))/\(wx.cell? ⟨g8+1,0,none⟩=some (.bool an))/\(wx.cell? ⟨g8+1,1,none⟩=some (.slice aA ak ac))/\(wx.cell? ⟨g8+1,2,none⟩=some (.bool am))/\(wx.cell? ⟨g8+1,3,none⟩=some (.slice aB aj ad))/\(wx.cell? ⟨f4,0,none⟩=some (.bool bn))/\(wx.cell? ⟨f4,1,none⟩=some (.slice bA l6 bc))/\(wx.cell? ⟨f4,2,none⟩=some (.bool bm))/\(wx.cell? ⟨f4,3,none⟩=some (.slice bB bj bd))/\(wx.cell? ⟨gf,0,none⟩=some (.slice (some ⟨gm,om,none⟩) n c1))) hmx ⟨m1,e4,e2,e5,e0,b5,b9,b8,a8,a9,c4,b7,b6,b4⟩ (λ_=>?_);refine Zjw 10 [0,1,2,3,4,5,6,7,8,9] rfl (by kernel_rfl) ⟨m1,e4,e2,e5,e0,b5,b9,b8,a8,a9,c4,b7,b6,b4⟩ ?_
     iterate 10 (refine tkA ?_;try simp only[Qc,Zg4,Zgk,Zgx,Gr,Gq,Gp])
     refine tk0 ?_;obtain⟨o9,g6⟩:=Gz c8.drew.heap.size;obtain⟨r9,k4,e1,C⟩:=Zq (w:=c8.drew) 73 #[.bool bn,.slice bA l6 bc,.bool bm,.slice bB bj bd];rw[g6]at e1;refine wpAnyL_o 10 λK hK=>?_;go_simp;(try rw[g6]);(try rw[k4]);clear k4;replace qa:=Za (Zc C qa.out);replace hA:=Za (hA.out.below C);replace f5:=Za (f5.out.below C);replace f7:=Za (f7.out.below C);replace f6:=Za (Zc C f6.out);replace c7:=Za (Zc C c7.out);replace g9:=Za (g9.out.below C);have i3:=Za (i7.out.trans (C.mono i7.out.size));clear i7;replace m1:=Zb C m1;replace e4:=Zb C e4;replace e2:=Zb C e2;replace e5:=Zb C e5;replace e0:=Zb C e0;replace b5:=Zb C b5;replace b9:=Zb C b9;replace b8:=Zb C b8;replace a8:=Zb C a8;replace a9:=Zb C a9;replace c4:=Zb C c4;replace b7:=Zb C b7;replace b6:=Zb C b6;replace b4:=Zb C b4;clear C;replace e1:=Za e1;replace g6:=Za g6;refine hK.out _ _ (λ_=>⟨m1,e4,e2,e5,e0,b5,b9,b8,a8,a9,c4,b7,b6,b4⟩) ?_;clear hK K
     try simp only[Qc,Zg4,Zgk,Zgx,Gr,Gq,Gp]
     have d4:=FL.sing1 e1.out f7.out;replace d4:=Za d4;have sl:Sm (lQ AQ i k):=hS.out.l i k g4 d7;have sz:Sm (zV AQ n X k):=hS.out.a k k (Qa _) (by omega);refine wpAnyL_o 11 λK hK=>?_;go_simp;refine(Zbw p4 p0 s4 p5 p7 s8 q1 q3 _ (some ⟨o9,0,none⟩) 1 1 [zV AQ n X k] r9 g9.out d4.out (by decide) (Zdg sl) (Zeo sz)).mono ?_;rintro e s2 ⟨o,pn,pA,pk,pc,pm,pB,pj,pd,rfl,pf⟩;replace qa:=Za (Zc o qa.out);replace hA:=Za (hA.out.below o);replace f5:=Za (f5.out.below o);replace f7:=Za (f7.out.below o);replace f6:=Za (Zc o f6.out);replace c7:=Za (Zc o c7.out);replace g9:=Za (g9.out.below o);replace e1:=Za (Zc o e1.out);replace d4:=Za (d4.out.below o);have i6:=Za (i3.out.trans (o.mono i3.out.size));clear i3;replace m1:=Zb o m1;replace e4:=Zb o e4;replace e2:=Zb o e2;replace e5:=Zb o e5;replace e0:=Zb o e0;replace b5:=Zb o b5;replace b9:=Zb o b9;replace b8:=Zb o b8;replace a8:=Zb o a8;replace a9:=Zb o a9;replace c4:=Zb o c4;replace b7:=Zb o b7;replace b6:=Zb o b6;replace b4:=Zb o b4;clear o;rw[Zfw]at pf;replace pf:=Za pf;refine hK.out _ _ (λ_=>⟨m1,e4,e2,e5,e0,b5,b9,b8,a8,a9,c4,b7,b6,b4⟩) ?_;clear hK K
     try simp only[Qc,Zg4,Zgk,Zgx,Gr,Gq,Gp]
     refine wpAnyL_o 12 λK hK=>?_;go_simp;refine(Ze2 an am pn pm aA aB pA pB ak ac aj ad pk pc pj pd _ _ s2 hA.out pf.out (hS.out.a k i (by omega) d7) (hS.out.ly i k g4 d7)).mono ?_;rintro e j2 ⟨f,rn,rA,rk,rc,rm,rB,rj,rd,rfl,rf⟩;replace qa:=Za (Zc f qa.out);replace hA:=Za (hA.out.below f);replace f5:=Za (f5.out.below f);replace f7:=Za (f7.out.below f);replace f6:=Za (Zc f f6.out);replace c7:=Za (Zc f c7.out);replace g9:=Za (g9.out.below f);replace e1:=Za (Zc f e1.out);replace d4:=Za (d4.out.below f);replace pf:=Za (pf.out.below f);have t9:=Za (i6.out.trans (f.mono i6.out.size));clear i6;replace m1:=Zb f m1;replace e4:=Zb f e4;replace e2:=Zb f e2;replace e5:=Zb f e5;replace e0:=Zb f e0;replace b5:=Zb f b5;replace b9:=Zb f b9;replace b8:=Zb f b8;replace a8:=Zb f a8;replace a9:=Zb f a9;replace c4:=Zb f c4;replace b7:=Zb f b7;replace b6:=Zb f b6;replace b4:=Zb f b4;clear f;rw[<- Zom g4 d7]at rf;replace rf:=Za rf;refine hK.out _ _ (λ_=>⟨m1,e4,e2,e5,e0,b5,b9,b8,a8,a9,c4,b7,b6,b4⟩) ?_;clear hK K
     try simp only[Qc,Zg4,Zgk,Zgx,Gr,Gq,Gp]
     obtain⟨n1,o0,m8,m6⟩:j2.frozen? ⟨g8+1,0,none⟩=false/\j2.frozen? ⟨g8+1,1,none⟩=false/\j2.frozen? ⟨g8+1,2,none⟩=false/\j2.frozen? ⟨g8+1,3,none⟩=false:=⟨qa.out.frozen 0,qa.out.frozen 1,qa.out.frozen 2,qa.out.frozen 3⟩;obtain⟨W5,i2,q5,f9,s5⟩:=Zbu rn rA rk rc rm rB rj rd qa.out;refine Zm (i:=13) rfl (by kernel_rfl) (by kernel_rfl) (λK hK=>?_);go_simp;(try rw[i2]);refine hK.out _ _ ?_;clear hK K
     try simp only[Qc,Zg4,Zgk,Zgx,Gr,Gq,Gp]
     have n8:=Za (rf.out.keptN f9 qa.out (Zb1 _ _ _ _ _ _ _ _));have k7:Hid (Kept (λk=>k=g8+1) V9 W5):=Za (Kept.trans f5.out f9);have n0:=Za q5;clear n1 o0 m8 m6 i2 f9 s5 q5 rf pf hA qa d4 e1 sl sz;refine wpAnyL_fin ?_;clear m1 e4 e2 e5 e0 b5 b9 b8 a8 a9 c4 b7 b6 b4;go_wp2_with fail
     go_roundg (i-(k+1))
     case measure=>omega
     case rel=>exact⟨k+1,_,_,_,_,_,_,_,_,by omega,by go_num,n0,n8,k7⟩
    | zero =>
     obtain rfl:k=i:=by omega
     have t2:decide ((k:Int)<(k:Int))=false:=by simp
     have o7:Z6 (brd AQ X n) k k n=zV AQ n X k:=rfl;rw[o7]at hA;obtain⟨Y1,s3,qz,j3⟩:=Zq (w:=wk) 73 #[.bool an,.slice aA ak ac,.bool am,.slice aB aj ad];obtain⟨gz,m7⟩:=Gz wk.heap.size;rw[m7]at qz;have i8:Below wi.heap.size wi Y1:=h6.out.trans (j3.mono h6.out.size);have p1:=hO.out.kept i8;have n5:=hA.out.below j3;have o4:=(hK.out.below i8).size;have u5:(zL AQ n X k).length+1<=1000:=by rw[Ztb];omega
     obtain⟨a0,a1,a2,a3,-⟩:=qa.out.four;replace o7:=Za o7;go_wp2_with ((try rw[s3]);(try rw[m7]);at_builtin;refine Zdl _ rfl (.tmp 43) (.tmp 45) 97 rfl V5.heap.size 73 iN Tryz.underlying97 hi s9 u0 t0 _ _ rfl p1 _ (some ⟨gz,0,none⟩) 1 1 [⟨an,aA,ak,ac,am,aB,aj,ad,zV AQ n X k⟩] rfl (Zbm _ qz) rfl (by intro e he;rw[List.mem_singleton]at he;subst he;exact n5) u5 o4 ?_;intro v7 w7 k0 l7 n2);simp only[Qn,Qt]at k0;rw[<- zL_succ]at k0;obtain⟨u1,t4,e7,k8⟩:=k0.fl;rw[Ztb]at e7 k8;subst e7;have p3:=k8.cap;unfold maxLen at p3;have l4:∀ q,(Value.slice Ay k cy).ownBlock=some q->V5.heap.size<=q/\q<wi.heap.size:=λq e=>⟨hO.out.row_ge q e,hO.out.blt q e⟩;have n7:Kept (λq=>q=g3) V5 w7:=Kept.grownC (hK.out.below i8) l7 (λq e=>(l4 q e).1);have h7:Hid (Below w1.heap.size w1 w7):=Za (l9.out.trans (n7.to_below (λq e=>by rw[e];exact Nat.le_of_eq g7.out) l9.out.size))
     have c6:Hid (Blk w7 g3 73 #[.bool sn,.slice sA sk sc,.bool sm,.slice sB sj sd]):=Za ((l7.block g3 (by have:=i8.size;omega) (λe=>by
      have h9:=(l4 g3 (by first|exact e|exact e.symm)).1;omega)).trans (Zc i8 qs.out))
     have d6:Hid (Blk w7 (g8+1) 73 #[.bool an,.slice aA ak ac,.bool am,.slice aB aj ad]):=Za ((l7.block (g8+1) (by have:=j3.size;have:=qa.out.lt;omega) (λe=>by
      have h9:=(l4 (g8+1) (by first|exact e|exact e.symm)).2;omega)).trans (Zc j3 qa.out))
     have e3:Hid (Fr w7 sn sA sk sc sm sB sj sd (Zax k (λs=>zV AQ n X s*zV AQ n X s/dQ AQ s))):=Za ((hs.out.below i8).of_keep n2);have d9:Hid (Fr w7 an aA ak ac am aB aj ad (zV AQ n X k)):=Za (n5.of_keep n2);obtain⟨gd,od,dn,dA,dk,dc,dm,dB,dj,dd,t7,⟨d0,d1,d2,d3⟩,hd⟩:=(u4.out.below h7.out).at_ d7;subst t7;rw[Zpz d7]at hd;have e8:=Za hd;have e9:=Za (Zc h7.out r4.out);have t5:=Za k0;have e6:=Za n7;have v0:=Za o4;have w9:g3<V5.heap.size:=by omega
     replace k8:=Za k8;clear hd k0 n7 s3 m7 j3 i8 p1 n5 o4 n2 l7 l4 a0 a1 a2 a3 qz;have d5:Hid (Below w7.heap.size w7 w7):=Za (Qb _ _);go_wp2_with fail;have a4:w7.cell? ⟨g3,0,none⟩=some (.bool sn):=c6.out.cell 0;have a7:w7.cell? ⟨g3,1,none⟩=some (.slice sA sk sc):=c6.out.cell 1;have Y:w7.cell? ⟨g3,2,none⟩=some (.bool sm):=c6.out.cell 2;have T:w7.cell? ⟨g3,3,none⟩=some (.slice sB sj sd):=c6.out.cell 3;have a5:w7.cell? ⟨g8+1,0,none⟩=some (.bool an):=d6.out.cell 0;have J:w7.cell? ⟨g8+1,1,none⟩=some (.slice aA ak ac):=d6.out.cell 1;have a6:w7.cell? ⟨g8+1,2,none⟩=some (.bool am):=d6.out.cell 2;have U:w7.cell? ⟨g8+1,3,none⟩=some (.slice aB aj ad):=d6.out.cell 3;have O:w7.cell? ⟨gf,1,none⟩=some (.slice (some ⟨gd,od,none⟩) n c2):=e9.out.cell 1;have u:Below w7.heap.size w7 w7.drew:=Zf (Qb _ _) 1;replace d5:=Za (d5.out.trans (u.mono d5.out.size));replace c6:=Za (Zc u c6.out);replace d6:=Za (Zc u d6.out);replace e3:=Za (e3.out.below u);replace d9:=Za (d9.out.below u);replace e8:=Za (e8.out.below u);replace e9:=Za (Zc u e9.out);replace e6:=Za (e6.out.below u);have i9:=Za (h7.out.trans (u.mono h7.out.size));clear h7;replace a4:=Zb u a4;replace a7:=Zb u a7;replace Y:=Zb u Y;replace T:=Zb u T;replace a5:=Zb u a5;replace J:=Zb u J
     replace a6:=Zb u a6;replace U:=Zb u U;replace O:=Zb u O;replace d0:=Zb u d0;replace d1:=Zb u d1;replace d2:=Zb u d2;replace d3:=Zb u d3;clear u;refine Z7 [13] (λwx=>(wx.cell? ⟨g3,0,none⟩=some (.bool sn))/\(wx.cell? ⟨g3,1,none⟩=some (.slice sA sk sc))/\(wx.cell? ⟨g3,2,none⟩=some (.bool sm))/\(wx.cell? ⟨g3,3,none⟩=some (.slice sB sj sd))/\(wx.cell? ⟨g8+1,0,none⟩=some (.bool an))/\(wx.cell? ⟨g8+1,1,none⟩=some (.slice aA ak ac))/\(wx.cell? ⟨g8+1,2,none⟩=some (.bool am))/\(wx.cell? ⟨g8+1,3,none⟩=some (.slice aB aj ad))/\(wx.cell? ⟨gf,1,none⟩=some (.slice (some ⟨gd,od,none⟩) n c2))/\(wx.cell? ⟨gd,od+k*4,none⟩=some (.bool dn))/\(wx.cell? ⟨gd,od+k*4+1,none⟩=some (.slice dA dk dc))/\(wx.cell? ⟨gd,od+k*4+2,none⟩=some (.bool dm))/\(wx.cell? ⟨gd,od+k*4+3,none⟩=some (.slice dB dj dd))) hmx ⟨a4,a7,Y,T,a5,J,a6,U,O,d0,d1,d2,d3⟩ (λ_=>?_);refine Zjw 8 [0,1,2,5,6,7,8,9] rfl (by kernel_rfl) ⟨a4,a7,Y,T,a5,J,a6,U,O,d0,d1,d2,d3⟩ ?_
     iterate 8 (refine tkA ?_;try simp only[Qc,Zg4,Zgk,Zgx,Gr,Gq,Gp])
     refine tk0 ?_;obtain⟨r7,g1⟩:=Gz w7.drew.heap.size;obtain⟨r5,k1,c9,y⟩:=Zq (w:=w7.drew) 73 #[.bool an,.slice aA ak ac,.bool am,.slice aB aj ad];rw[g1]at c9;refine wpAnyL_o 3 λK hK=>?_;go_simp;(try rw[g1]);(try rw[k1]);clear k1;replace d5:=Za (d5.out.trans (y.mono d5.out.size));replace c6:=Za (Zc y c6.out);replace d6:=Za (Zc y d6.out);replace e3:=Za (e3.out.below y);replace d9:=Za (d9.out.below y);replace e8:=Za (e8.out.below y);replace e9:=Za (Zc y e9.out);replace e6:=Za (e6.out.below y);have h8:=Za (i9.out.trans (y.mono i9.out.size));clear i9;replace a4:=Zb y a4;replace a7:=Zb y a7;replace Y:=Zb y Y;replace T:=Zb y T;replace a5:=Zb y a5;replace J:=Zb y J;replace a6:=Zb y a6;replace U:=Zb y U;replace O:=Zb y O;replace d0:=Zb y d0;replace d1:=Zb y d1;replace d2:=Zb y d2;replace d3:=Zb y d3;clear y;replace c9:=Za c9;replace g1:=Za g1;refine hK.out _ _ (λ_=>⟨a4,a7,Y,T,a5,J,a6,U,O,d0,d1,d2,d3⟩) ?_;clear hK K
     try simp only[Qc,Zg4,Zgk,Zgx,Gr,Gq,Gp]
     have d4:=Za (FL.sing1 c9.out d9.out);have szz:Sm (zV AQ n X k):=hS.out.a k k (Qa _) d7;have q4:dQ AQ k≠0:=hp.out.ne d7;refine wpAnyL_o 4 λK hK=>?_;go_simp;refine(Zbw an aA ak ac am aB aj ad _ (some ⟨r7,0,none⟩) 1 1 [zV AQ n X k] r5 d9.out d4.out (by decide) (Zdg szz) (Zeo szz)).mono ?_;rintro e r8 ⟨o,pn,pA,pk,pc,pm,pB,pj,pd,rfl,pf⟩;replace d5:=Za (d5.out.trans (o.mono d5.out.size));replace c6:=Za (Zc o c6.out);replace d6:=Za (Zc o d6.out);replace e3:=Za (e3.out.below o);replace d9:=Za (d9.out.below o);replace e8:=Za (e8.out.below o);replace e9:=Za (Zc o e9.out);replace e6:=Za (e6.out.below o);replace c9:=Za (Zc o c9.out);replace d4:=Za (d4.out.below o);have i0:=Za (h8.out.trans (o.mono h8.out.size));clear h8;replace a4:=Zb o a4;replace a7:=Zb o a7;replace Y:=Zb o Y;replace T:=Zb o T;replace a5:=Zb o a5;replace J:=Zb o J;replace a6:=Zb o a6;replace U:=Zb o U;replace O:=Zb o O;replace d0:=Zb o d0;replace d1:=Zb o d1;replace d2:=Zb o d2;replace d3:=Zb o d3;clear o;rw[Zfw]at pf;replace pf:=Za pf;refine hK.out _ _ (λ_=>⟨a4,a7,Y,T,a5,J,a6,U,O,d0,d1,d2,d3⟩) ?_;clear hK K
     try simp only[Qc,Zg4,Zgk,Zgx,Gr,Gq,Gp]
     refine wpAnyL_o 10 λK hK=>?_;go_simp;refine(Zm0 pn pm dn dm pA pB dA dB pk pc pj pd dk dc dj dd _ _ r8 pf.out e8.out (hS.out.zz k d7) (hS.out.d k d7) q4).mono ?_;rintro e m3 ⟨c5,qn,qA,qk,qc,qm,qB,qj,qd,rfl,qf⟩;replace d5:=Za (d5.out.trans (c5.mono d5.out.size));replace c6:=Za (Zc c5 c6.out);replace d6:=Za (Zc c5 d6.out);replace e3:=Za (e3.out.below c5);replace d9:=Za (d9.out.below c5);replace e8:=Za (e8.out.below c5);replace e9:=Za (Zc c5 e9.out);replace e6:=Za (e6.out.below c5);replace c9:=Za (Zc c5 c9.out);replace d4:=Za (d4.out.below c5);replace pf:=Za (pf.out.below c5);have i5:=Za (i0.out.trans (c5.mono i0.out.size));clear i0;replace a4:=Zb c5 a4;replace a7:=Zb c5 a7;replace Y:=Zb c5 Y;replace T:=Zb c5 T;replace a5:=Zb c5 a5;replace J:=Zb c5 J;replace a6:=Zb c5 a6;replace U:=Zb c5 U;replace O:=Zb c5 O;replace d0:=Zb c5 d0;replace d1:=Zb c5 d1;replace d2:=Zb c5 d2;replace d3:=Zb c5 d3;clear c5;replace qf:=Za qf;refine hK.out _ _ (λ_=>⟨a4,a7,Y,T,a5,J,a6,U,O,d0,d1,d2,d3⟩) ?_;clear hK K
     try simp only[Qc,Zg4,Zgk,Zgx,Gr,Gq,Gp]
     obtain⟨q2,h0⟩:=Gz m3.heap.size;obtain⟨p8,k3,f8,h⟩:=Zq (w:=m3) 73 #[.bool sn,.slice sA sk sc,.bool sm,.slice sB sj sd,.bool qn,.slice qA qk qc,.bool qm,.slice qB qj qd];rw[h0]at f8;refine wpAnyL_o 11 λK hK=>?_;go_simp;(try rw[h0]);(try rw[k3]);clear k3;replace d5:=Za (d5.out.trans (h.mono d5.out.size));replace c6:=Za (Zc h c6.out);replace d6:=Za (Zc h d6.out);replace e3:=Za (e3.out.below h);replace d9:=Za (d9.out.below h);replace e8:=Za (e8.out.below h);replace e9:=Za (Zc h e9.out);replace e6:=Za (e6.out.below h);replace c9:=Za (Zc h c9.out);replace d4:=Za (d4.out.below h);replace pf:=Za (pf.out.below h);replace qf:=Za (qf.out.below h);have i4:=Za (i5.out.trans (h.mono i5.out.size));clear i5;replace a4:=Zb h a4;replace a7:=Zb h a7;replace Y:=Zb h Y;replace T:=Zb h T;replace a5:=Zb h a5;replace J:=Zb h J;replace a6:=Zb h a6;replace U:=Zb h U;replace O:=Zb h O;replace d0:=Zb h d0;replace d1:=Zb h d1;replace d2:=Zb h d2;replace d3:=Zb h d3;clear h;replace f8:=Za f8;replace h0:=Za h0;refine hK.out _ _ (λ_=>⟨a4,a7,Y,T,a5,J,a6,U,O,d0,d1,d2,d3⟩) ?_;clear hK K
     try simp only[Qc,Zg4,Zgk,Zgx,Gr,Gq,Gp]
     have k9:=Za (FL.pair2 f8.out e3.out qf.out);refine wpAnyL_o 12 λK hK=>?_;go_simp;refine(Zlv (some ⟨q2,0,none⟩) 2 2 [_,_] p8 k9.out (by decide) (Zp7 (hS.out.s k (by omega))) (Zs3 (hS.out.s k (by omega)) (hS.out.q k d7))).mono ?_;rintro e j1 ⟨f,rn,rA,rk,rc,rm,rB,rj,rd,rfl,rf⟩;replace d5:=Za (d5.out.trans (f.mono d5.out.size));replace c6:=Za (Zc f c6.out);replace d6:=Za (Zc f d6.out);replace e3:=Za (e3.out.below f);replace d9:=Za (d9.out.below f);replace e8:=Za (e8.out.below f);replace e9:=Za (Zc f e9.out);replace e6:=Za (e6.out.below f);replace c9:=Za (Zc f c9.out);replace d4:=Za (d4.out.below f);replace pf:=Za (pf.out.below f);replace qf:=Za (qf.out.below f);replace f8:=Za (Zc f f8.out);replace k9:=Za (k9.out.below f);have t6:=Za (i4.out.trans (f.mono i4.out.size));clear i4;replace a4:=Zb f a4;replace a7:=Zb f a7;replace Y:=Zb f Y;replace T:=Zb f T;replace a5:=Zb f a5;replace J:=Zb f J;replace a6:=Zb f a6;replace U:=Zb f U;replace O:=Zb f O;replace d0:=Zb f d0;replace d1:=Zb f d1;replace d2:=Zb f d2;replace d3:=Zb f d3;clear f;rw[sumF2]at rf;replace rf:=Za rf;refine hK.out _ _ (λ_=>⟨a4,a7,Y,T,a5,J,a6,U,O,d0,d1,d2,d3⟩) ?_;clear hK K
     try simp only[Qc,Zg4,Zgk,Zgx,Gr,Gq,Gp]
     obtain⟨n1,o0,m8,m6⟩:j1.frozen? ⟨g3,0,none⟩=false/\j1.frozen? ⟨g3,1,none⟩=false/\j1.frozen? ⟨g3,2,none⟩=false/\j1.frozen? ⟨g3,3,none⟩=false:=⟨c6.out.frozen 0,c6.out.frozen 1,c6.out.frozen 2,c6.out.frozen 3⟩;obtain⟨W5,i2,q5,f9,s5⟩:=Zbu rn rA rk rc rm rB rj rd c6.out;refine Zm (i:=13) rfl (by kernel_rfl) (by kernel_rfl) (λK hK=>?_);go_simp;(try rw[i2]);refine hK.out _ _ ?_;clear hK K
     try simp only[Qc,Zg4,Zgk,Zgx,Gr,Gq,Gp]
     have n8:Hid (Fr W5 rn rA rk rc rm rB rj rd (Zax (k+1) (λs=>zV AQ n X s*zV AQ n X s/dQ AQ s))):=Za (rf.out.keptN f9 c6.out (Zb1 _ _ _ _ _ _ _ _));have k7:Hid (Kept (λq=>q=g3) V5 W5):=Za (Kept.trans e6.out f9);have o1:=t5.out.kept d5.out;have s1:Hid (OwnF 73 W5 V5.heap.size (.slice u1 (k+1) t4) (zL AQ n X (k+1))):=Za (o1.keptG c6.out (Zb1 _ _ _ _ _ _ _ _) (λe=>by have:=o1.row_ge g3 e;omega) f9);have n0:=Za q5;clear n1 o0 m8 m6 i2 f9 s5 q5 rf pf qf e3 d9 c6 d6 d4 k9 c9 f8 szz q4 o1;refine wpAnyL_fin ?_;clear a4 a7 Y T a5 J a6 U O d0 d1 d2 d3;go_wp2_with fail
     go_roundg (n-(k+1))
     case measure=>omega
     case rel=>exact⟨k+1,_,_,_,_,_,_,_,_,by omega,by go_num,s1,n0,n8,k7⟩
def FracPost(E:Int)(V:Rat)(w:World)(e:Ending)(w':World):Prop:=
 Below w.heap.size w w'/\((E=0/\∃ na A n c nb B m d,e=.returned (.tuple #[.agg #[.bool na,.slice A n c,.bool nb,.slice B m d],.int .i64 0])/\Fr w' na A n c nb B m d V) \/
  (E≠0/\e=.returned (.tuple #[.agg #[.bool false,.slice none 0 0,.bool false,.slice none 0 0],.int .i64 E])))
theorem FracPost.fall{E0 E:Int}{V:Rat}{w w':World}(hb:Below w.heap.size w w')(h:E0=E)(h0:E≠0):FracPost E0 V w (.returned (.tuple #[.agg #[.bool false,.slice none 0 0,.bool false,.slice none 0 0],.int .i64 E])) w':=by
 subst h;exact⟨hb,.inr ⟨h0,rfl⟩⟩
def Zr8(rs:List RX)(i k:Int):Int:=if Zaf rs≠0 then Zaf rs else if 0<=i/\i<(rs.length:Int)/\0<=k/\k<(rs.length:Int)then 0 else 8
def corV(rs:List RX)(i k:Int):Rat:=Zh (qM rs) i.toNat k.toNat*Zh (qM rs) i.toNat k.toNat/(Zh (qM rs) i.toNat i.toNat*Zh (qM rs) k.toNat k.toNat)
section
variable{rs:List RX}{i k E:Int}
theorem Z0g(h:Zaf rs=E)(h0:E≠0):Zr8 rs i k=E:=by subst h;exact Gx h0
theorem Zm1(h:Zaf rs=0)(hb:¬ (0<=i/\i<(rs.length:Int)/\0<=k/\k<(rs.length:Int))):Zr8 rs i k=8:=by
 unfold Zr8;rw[Gw (by simp[h])];exact Gw hb
theorem Zu0(h:Zaf rs=0)(hb:0<=i/\i<(rs.length:Int)/\0<=k/\k<(rs.length:Int)):Zr8 rs i k=0:=by
 unfold Zr8;rw[Gw (by simp[h])];exact Gx hb
end
theorem MFL.ents{w:World}{g o n c:Nat}{Q:List (List Rat)}(h:MFL w (some ⟨g,o,none⟩) n c Q)(hr:∀ i,i<n->(Q[i]?.getD []).length=n){I:Nat}(hI:I<n):∃ gi oi ci,w.cell? ⟨g,o+I,none⟩=some (.slice (some ⟨gi,oi,none⟩) n ci)/\n<=ci/\ci<=maxLen/\∀ K,K<n->∃ na A1 n1 c1 nb B m d,At4 w gi (oi+K*4) na A1 n1 c1 nb B m d/\Fr w na A1 n1 c1 nb B m d (Zh Q I K):=by
 obtain⟨A',n',c',h1,h2⟩:=h.atS hI;have hl:=h2.len;rw[hr I hI]at hl;subst hl;obtain⟨gi,oi,-,-,-,-,-,-,-,-,rfl,-,-⟩:=h2.at_ (k:=0) (by omega);refine⟨gi,oi,c',h1,h2.cap.1,h2.cap.2,λK hK=>?_⟩;obtain⟨g9,o9,na,A1,n1,c1,nb,B,m,d,e,h3,h4⟩:=h2.at_ hK;cases e;exact⟨_,_,_,_,_,_,_,_,h3,h4⟩
theorem Ztt(a:Rat):0<=a*a:=by
 rcases Rat.le_total (a:=0) (b:=a)with h|h;exact Ql h h
 ·have e:a*a=(-a)*(-a):=by grind
  have h2:0 <= -a:=Rat.neg_le_neg h |> λh3=>by rw[Rat.neg_zero]at h3;exact h3
  rw[e];exact Ql h2 h2
theorem Zo8{A:Nat->Nat->Rat}{n:Nat}(hA:∀ i k,i<n->k<n->A i k=A k i)(hp:posP A n){k:Nat}(hk:k<n):∀ f t,t+f=k->0<Z6 A t k k
 | 0,t,h=>by
  obtain rfl:t=k:=by omega
  exact hp t hk
 | f+1,t,h=>by
  have h1:=Zo8 hA hp hk f (t+1) (by omega);have hd:=hp t (by omega);have h2:=Zl9 hA (t:=t) (i:=k) (k:=k) (by omega) (Qa _) hk (hp.ne (by omega));have h3:=Ql (Ztt (lQ A k t)) (Rat.le_of_lt hd);have e:Z6 A t k k=Z6 A (t+1) k k+lQ A k t*lQ A k t*dQ A t:=by rw[h2];grind
  rw[e];have h6:Z6 A (t+1) k k<=Z6 A (t+1) k k+lQ A k t*lQ A k t*dQ A t:=by grind
  exact Rat.not_le.1 λh5=>Rat.not_le.2 h1 (Rat.le_trans h6 h5)
theorem Zjv{rs:List RX}(h0:Zaf rs=0){k:Nat}(hk:k<rs.length):0<Zh (qM rs) k k:=by
 obtain⟨h,f,e⟩:=Zgh h0;exact Zo8 (A:=Zh (qM rs)) (n:=rs.length) (λi k hi hk=>symB_iff.1 f i k (by unfold qM;rw[Qd];exact hi) (by unfold qM;rw[Qd];exact hk)) e (k:=k) (by omega) k 0 (by omega)
theorem Ztw(na:Bool)(A:Option Addr)(n c:Nat)(nb:Bool)(B:Option Addr)(m d:Nat)(w:World):(Instr.field 73 (.agg #[.bool na,.slice A n c,.bool nb,.slice B m d]) 0).run Tryz.prog w=.ok (.agg #[.bool na,.slice A n c,.bool nb,.slice B m d]) w:=by kernel_rfl
theorem Zn6(A:Option Addr)(n c:Nat)(rs:List RX)(i k:Int)(w:World)(h:MXL w A n c rs)(hF:FacC rs)(hi1:-9223372036854775808<=i)(hi2:i<=9223372036854775807)(hk1:-9223372036854775808<=k)(hk2:k<=9223372036854775807)(hS:Zaf rs=0->∀ a b,SmN 5 5 (Zh (qM rs) a b)) :
    Calls Tryz.prog 26 #[.slice A n c,.int .i64 i,.int .i64 k] w (FracPost (Zr8 rs i k) (corV rs i k) w):=by
 have hmx:=Gt
 have d8:=Za h.1;have r1:=h.2.1;have m4:=h.2.2.1;unfold maxLen at m4;obtain⟨W0,i7,a4,⟨q0,q1⟩,s0⟩:=Zdb w 41 #[.bool false,.slice none 0 0,.bool false,.slice none 0 0] 26 #[.int .i64 0];have hC:=Za (Ze5 A n c rs W0 (h.below a4) hF);have hH:=Za (h.below a4);replace hS:=Za hS;replace q0:=Za q0;replace q1:=Za q1;replace a4:=Za a4;clear h hF;replace s0:=Za s0;obtain⟨mi,e6⟩:=Gz (min i k);obtain⟨ma,g8⟩:=Gz (max i k);have h6:=Za e6;have h5:=Za g8;clear e6 g8
 go_enter_defers Tryz.func26,Tryz.ntmps26
 go_wp2_with fail;(try rw[i7]);clear i7;refine hC.out.mono ?_;rintro e w1 ⟨a7,⟨h0,v1,v2,L0,rfl,m1⟩|⟨h0,rfl⟩⟩
 case inr =>
  have T:=a4.out.trans (a7.mono a4.out.size);have k0:=Zc a7 q0.out;have k1:=Zc a7 q1.out;obtain⟨E,hE⟩:=Gz (Zaf rs);rw[hE]at h0 ⊢;have i2:=Za h0;have b5:=Za (Z0g (i:=i) (k:=k) hE h0);replace hE:=Za hE;go_wp2_with fail;refine leaves_cons (f:=39) (args:=#[.pointer (some ⟨w.heap.size+1,0,none⟩)]) (by simp) (by simp[go_sem]) ?_;have e0:=(k1).cell 0;simp at e0;refine(Z5 ⟨w.heap.size+1,0,none⟩ E 0 _ e0 ((k1).frozen 0)).mono ?_;rintro e u' w'' ⟨rfl,rfl,hw⟩;obtain⟨V,hV,e4,-,-,hk,sV⟩:=Zr 117 #[.int .i64 E] (T) ((T).size);obtain⟨U,hU,b8,q3,-,kq,-⟩:=Zy E e4 (Qk _) (hk _ _ _ (k1));rw[hV,hU]at hw;subst hw;have r4:=q3.cell 0;simp at r4;obtain⟨d0,d1,d2,d3,-⟩:=(kq _ _ _ (by omega) (hk _ _ _ (k0))).four;exact⟨.tuple #[.agg #[.bool false,.slice none 0 0,.bool false,.slice none 0 0],.int .i64 E],by simp[results,Tryz.results26,go_sem,r4,d0,d1,d2,d3],FracPost.fall b8 b5.out (by first|decide|assumption|exact i2.out)⟩
 have f7:=Za (hS.out h0);obtain⟨e8,l0,l7⟩:=Zgh h0;have q2:n<=6:=by rw[<- d8.out];exact e8.facts.2.1
 have a6:=e8.row hH.out;have hM:=Za ((e8.good hH.out).below a7);have T:=Za (a4.out.trans (a7.mono a4.out.size));replace q0:=Za (Zc a7 q0.out);replace q1:=Za (Zc a7 q1.out);replace h0:=Za h0;replace a6:=Za a6;clear m1 e8 l0 l7 hC hH a4 a7 L0 hS;have e6:=h6.out;have g8:=h5.out;by_cases Y:0<=mi
 case neg =>
  have t1:decide (0<=mi)=false:=Gu Y;have b5:=Za (Zm1 (i:=i) (k:=k) h0.out (λhh=>Y (by omega)));replace Y:=Za Y;go_wp2_with fail;refine(Zad 8 w1).mono ?_;rintro e w6 ⟨rfl,rfl⟩;go_wp2_with fail;refine leaves_cons (f:=39) (args:=#[.pointer (some ⟨w.heap.size+1,0,none⟩)]) (by simp) (by simp[go_sem]) ?_;have e0:=(q1.out).cell 0;simp at e0;refine(Z5 ⟨w.heap.size+1,0,none⟩ 8 0 _ e0 ((q1.out).frozen 0)).mono ?_;rintro e u' w'' ⟨rfl,rfl,hw⟩;obtain⟨V,hV,e4,-,-,hk,sV⟩:=Zr 117 #[.int .i64 8] (T.out) ((T.out).size);obtain⟨U,hU,b8,q3,-,kq,-⟩:=Zy 8 e4 (Qk _) (hk _ _ _ (q1.out));rw[hV,hU]at hw;subst hw;have r4:=q3.cell 0;simp at r4;obtain⟨d0,d1,d2,d3,-⟩:=(kq _ _ _ (by omega) (hk _ _ _ (q0.out))).four;exact⟨.tuple #[.agg #[.bool false,.slice none 0 0,.bool false,.slice none 0 0],.int .i64 8],by simp[results,Tryz.results26,go_sem,r4,d0,d1,d2,d3],FracPost.fall b8 b5.out (by first|decide|assumption|exact i2.out)⟩
 by_cases b7:ma<(n:Int)
 case neg =>
  have t1:decide (0<=mi)=true:=Gv Y;have t2:decide (ma<(n:Int))=false:=Gu b7;have b5:=Za (Zm1 (i:=i) (k:=k) h0.out (λhh=>b7 (by rw[d8.out]at hh;omega)));replace Y:=Za Y;replace b7:=Za b7;go_wp2_with fail;refine(Zad 8 w1).mono ?_;rintro e w6 ⟨rfl,rfl⟩;go_wp2_with fail;refine leaves_cons (f:=39) (args:=#[.pointer (some ⟨w.heap.size+1,0,none⟩)]) (by simp) (by simp[go_sem]) ?_;have e0:=(q1.out).cell 0;simp at e0;refine(Z5 ⟨w.heap.size+1,0,none⟩ 8 0 _ e0 ((q1.out).frozen 0)).mono ?_;rintro e u' w'' ⟨rfl,rfl,hw⟩;obtain⟨V,hV,e4,-,-,hk,sV⟩:=Zr 117 #[.int .i64 8] (T.out) ((T.out).size);obtain⟨U,hU,b8,q3,-,kq,-⟩:=Zy 8 e4 (Qk _) (hk _ _ _ (q1.out));rw[hV,hU]at hw;subst hw;have r4:=q3.cell 0;simp at r4;obtain⟨d0,d1,d2,d3,-⟩:=(kq _ _ _ (by omega) (hk _ _ _ (q0.out))).four;exact⟨.tuple #[.agg #[.bool false,.slice none 0 0,.bool false,.slice none 0 0],.int .i64 8],by simp[results,Tryz.results26,go_sem,r4,d0,d1,d2,d3],FracPost.fall b8 b5.out (by first|decide|assumption|exact i2.out)⟩
 have b5:=Za (Zu0 (i:=i) (k:=k) h0.out (by rw[d8.out];omega));obtain⟨I,rfl⟩:∃ I:Nat,i=I:=⟨i.toNat,by omega⟩;obtain⟨K,rfl⟩:∃ K:Nat,k=K:=⟨k.toNat,by omega⟩;have f5:I<n:=by omega
 have f9:K<n:=by omega
 have t1:decide (0<=mi)=true:=Gv Y;have t2:decide (ma<(n:Int))=true:=Gv b7;replace Y:=Za Y;replace b7:=Za b7;have bI:(I:Int)<(n:Int):=by omega
 have bK:(K:Int)<(n:Int):=by omega
 obtain⟨g,o,-,-,-,rfl,-,-⟩:=hM.out.at_ f5;obtain⟨gi,oi,ci,rI,o1,j6,h7⟩:=hM.out.ents a6.out f5;obtain⟨gk,ok,ck,rK,p5,j4,j8⟩:=hM.out.ents a6.out f9;unfold maxLen at j6 j4;obtain⟨an,aA,ak,ac,am,aB,aj,ad,⟨a0,a1,a2,a3⟩,a5⟩:=h7 K f9;obtain⟨bn,bA,bk,bc,bm,bB,bj,bd,⟨b0,b1,b2,b3⟩,a9⟩:=h7 I f5;obtain⟨cn,cA,l6,cc,cm,cB,cj,cd,⟨c0,c1,c2,c3⟩,a8⟩:=j8 K f9;have i0:=Zjv h0.out (k:=I) (by rw[d8.out];exact f5);have i1:=Zjv h0.out (k:=K) (by rw[d8.out];exact f9);obtain⟨x,hx⟩:=Gz (Zh (qM rs) I K);obtain⟨y,hy⟩:=Gz (Zh (qM rs) I I);obtain⟨z,hz⟩:=Gz (Zh (qM rs) K K);have sx:=f7.out I K;have sy:=f7.out I I;have sz:=f7.out K K;rw[hx]at a5 sx;rw[hy]at a9 sy i0;rw[hz]at a8 sz i1;have hV:Hid (corV rs (I:Int) (K:Int)=x*x/(y*z)):=Za (by unfold corV;rw[Qu,Qu,hx,hy,hz]);have i3:y*z≠0:=λe=>absurd (Rat.mul_pos i0 i1) (by rw[e];decide)
 have s1:Sm x:=sx.sm (by decide) (by decide);have s2:Sm y:=sy.sm (by decide) (by decide);have s3:Sm z:=sz.sm (by decide) (by decide);have s4:Sm (x*x):=(sx.mulN sx).sm (by decide) (by decide);have s5:Sm (y*z):=(sy.mulN sz).sm (by decide) (by decide);replace i3:=Za i3;replace s1:=Za s1;replace s2:=Za s2;replace s3:=Za s3;replace s4:=Za s4;replace s5:=Za s5;clear sx sy sz hx hy hz i0 i1 h7 j8 f7;replace a5:=Za a5;replace a9:=Za a9;replace a8:=Za a8;go_wp2_with fail;refine(Za9 8 w1).mono ?_;rintro e w6 ⟨rfl,rfl⟩;clear hM a6 h0 h6 h5 t1 t2 e6 g8;obtain⟨g1,h1⟩:=Gz w6.heap.size;obtain⟨V3,O,q5,b6⟩:=Zq (w:=w6) 73 #[.bool an,.slice aA ak ac,.bool am,.slice aB aj ad];rw[h1]at q5;replace q0:=Za (Zc b6 q0.out);replace q1:=Za (Zc b6 q1.out);replace a5:=Za (a5.out.below b6);replace a9:=Za (a9.out.below b6);replace a8:=Za (a8.out.below b6);have h8:=Za (T.out.trans (b6.mono T.out.size));clear T;clear b6;replace q5:=Za q5;have g4:=Zb (show Below w6.heap.size w6 V3 from by rw[<- O];exact(Qb _ _).alloc (Qa _) _) rI;have f4:=Zb (show Below w6.heap.size w6 V3 from by rw[<- O];exact(Qb _ _).alloc (Qa _) _) rK;have e7:=Zb (show Below w6.heap.size w6 V3 from by rw[<- O];exact(Qb _ _).alloc (Qa _) _) b0;have g0:=Zb (show Below w6.heap.size w6 V3 from by rw[<- O];exact(Qb _ _).alloc (Qa _) _) b1
 have f6:=Zb (show Below w6.heap.size w6 V3 from by rw[<- O];exact(Qb _ _).alloc (Qa _) _) b2;have g2:=Zb (show Below w6.heap.size w6 V3 from by rw[<- O];exact(Qb _ _).alloc (Qa _) _) b3;have g6:=Zb (show Below w6.heap.size w6 V3 from by rw[<- O];exact(Qb _ _).alloc (Qa _) _) c0;have e9:=Zb (show Below w6.heap.size w6 V3 from by rw[<- O];exact(Qb _ _).alloc (Qa _) _) c1;have g9:=Zb (show Below w6.heap.size w6 V3 from by rw[<- O];exact(Qb _ _).alloc (Qa _) _) c2;have f8:=Zb (show Below w6.heap.size w6 V3 from by rw[<- O];exact(Qb _ _).alloc (Qa _) _) c3;go_wp2_with fail;(try rw[h1]);(try rw[O]);clear O;replace h1:=Za h1;have g5:V3.cell? ⟨g1,0,none⟩=some (.bool an):=q5.out.cell 0;have g7:V3.cell? ⟨g1,1,none⟩=some (.slice aA ak ac):=q5.out.cell 1;have d5:V3.cell? ⟨g1,2,none⟩=some (.bool am):=q5.out.cell 2;have c5:V3.cell? ⟨g1,3,none⟩=some (.slice aB aj ad):=q5.out.cell 3;clear rI rK a0 a1 a2 a3 b0 b1 b2 b3 c0 c1 c2 c3
 have c4:Hid (∀ wx,Below V3.heap.size V3 wx->(wx.cell? ⟨g,o+I,none⟩=some (.slice (some ⟨gi,oi,none⟩) n ci))/\(wx.cell? ⟨g,o+K,none⟩=some (.slice (some ⟨gk,ok,none⟩) n ck))/\(wx.cell? ⟨gi,oi+I*4,none⟩=some (.bool bn))/\(wx.cell? ⟨gi,oi+I*4+1,none⟩=some (.slice bA bk bc))/\(wx.cell? ⟨gi,oi+I*4+2,none⟩=some (.bool bm))/\(wx.cell? ⟨gi,oi+I*4+3,none⟩=some (.slice bB bj bd))/\(wx.cell? ⟨gk,ok+K*4,none⟩=some (.bool cn))/\(wx.cell? ⟨gk,ok+K*4+1,none⟩=some (.slice cA l6 cc))/\(wx.cell? ⟨gk,ok+K*4+2,none⟩=some (.bool cm))/\(wx.cell? ⟨gk,ok+K*4+3,none⟩=some (.slice cB cj cd))/\(wx.cell? ⟨g1,0,none⟩=some (.bool an))/\(wx.cell? ⟨g1,1,none⟩=some (.slice aA ak ac))/\(wx.cell? ⟨g1,2,none⟩=some (.bool am))/\(wx.cell? ⟨g1,3,none⟩=some (.slice aB aj ad))):=Za (λwx C=>⟨Zb C g4,Zb C f4,Zb C e7,Zb C g0,Zb C f6,Zb C g2,Zb C g6,Zb C e9,Zb C g9,Zb C f8,Zb C g5,Zb C g7,Zb C d5,Zb C c5⟩);have J:Below V3.heap.size V3 V3.drew:=Zf (Qb _ _) 1;refine wp_heldS [24,25] hmx c4 J (λhxs1=>?_);refine Zjw 18 [0,1,4,5,6,7,8,9,10,11,12,13,14,15,16,17,18,19] rfl (by kernel_rfl) (c4.out _ J) ?_
 iterate 18 (refine tkA ?_;try simp only[Qc,Zg4,Zgk,Zgx,Gr,Gq,Gp])
 refine tk0 ?_;refine Za2 [(2,34),(3,35),(20,52),(21,53),(22,54),(23,55)] (λ_=>[]) [(2,34),(3,35),(20,52),(21,53),(22,54),(23,55)] (Zao [(2,fl1V x),(3,frV (x*x)),(20,fl1V z),(21,frV (y*z)),(22,frV (x*x/(y*z))),(23,frV (x*x/(y*z)))]) 2 (by kernel_rfl) (λp _=>Zeh (Zx Zeb (Zx Zby (Zx Zeb (Zx Zby (Zx Zby (Zx Zby Ze6)))))) p.1) (λwx h=>c4.out _ (J.trans (h.mono J.size))) ?hop1 ?hfin1
 case hop1 =>
  intro p hp;simp only[List.mem_cons,List.not_mem_nil,or_false]at hp;simp only[Qn,Qt,Zap,Qc,Zg4,Zgk,Zgx];rcases hp with rfl|rfl|rfl|rfl|rfl|rfl
  ·intro ν wx hb hP
   have C:=J.trans (hb.mono J.size);refine Zl (i:=2) rfl (λK hK=>?_);go_simp;exact hK.out _ _ ⟨_,rfl,(by simp only[Zao];exact⟨_,_,rfl,FL.sing1 (Blk.new _ _ _) ((a5.out.below C).below ((Qb _ _).alloc (Qa _) _))⟩),(Qb _ _).alloc (Qa _) _,trivial⟩
  ·intro ν wx hb hP
   have C:=J.trans (hb.mono J.size);have h2:=hP (2,34) (by simp) (by kernel_rfl);simp only[Zao]at h2;obtain⟨m6,m2,hν2,l9⟩:=h2;rw[hν2];refine Zl (i:=3) rfl (λK hK=>?_);go_simp;refine(Zbw an aA ak ac am aB aj ad _ m6 1 m2 [x] wx (a5.out.below C) l9 (by decide) (Zdg s1.out) (Zeo s1.out)).mono ?_;rintro e w5 ⟨e5,fn,fA,fk,fc,fm,fB,fj,fd,rfl,b4⟩;rw[Zfw]at b4;exact hK.out _ _ ⟨_,rfl,(by simp only[Zao];exact⟨_,_,_,_,_,_,_,_,rfl,b4⟩),e5,trivial⟩
  ·intro ν wx hb hP
   have C:=J.trans (hb.mono J.size);refine Zl (i:=20) rfl (λK hK=>?_);go_simp;exact hK.out _ _ ⟨_,rfl,(by simp only[Zao];exact⟨_,_,rfl,FL.sing1 (Blk.new _ _ _) ((a8.out.below C).below ((Qb _ _).alloc (Qa _) _))⟩),(Qb _ _).alloc (Qa _) _,trivial⟩
  ·intro ν wx hb hP
   have C:=J.trans (hb.mono J.size);have e2:=hP (20,52) (by simp) (by kernel_rfl);simp only[Zao]at e2;obtain⟨i4,i5,hν20,j2⟩:=e2;rw[hν20];refine Zl (i:=21) rfl (λK hK=>?_);go_simp;refine(Zbw bn bA bk bc bm bB bj bd _ i4 1 i5 [z] wx (a9.out.below C) j2 (by decide) (Zdg s2.out) (Zeo s3.out)).mono ?_;rintro e w5 ⟨e5,fn,fA,fk,fc,fm,fB,fj,fd,rfl,b4⟩;rw[Zfw]at b4;exact hK.out _ _ ⟨_,rfl,(by simp only[Zao];exact⟨_,_,_,_,_,_,_,_,rfl,b4⟩),e5,trivial⟩
  ·intro ν wx hb hP
   have C:=J.trans (hb.mono J.size);have h3:=hP (3,35) (by simp) (by kernel_rfl);simp only[Zao]at h3;obtain⟨m0,l5,m3,l1,l4,k9,k8,l8,hν3,l2⟩:=h3;rw[hν3];have e1:=hP (21,53) (by simp) (by kernel_rfl);simp only[Zao]at e1;obtain⟨i6,k5,j9,j0,k2,j3,j5,k7,hν21,i8⟩:=e1;rw[hν21];refine Zl (i:=22) rfl (λK hK=>?_);go_simp;refine(Zm0 m0 l4 i6 k2 l5 k9 k5 j3 m3 l1 k8 l8 j9 j0 j5 k7 _ _ wx l2 i8 s4.out s5.out i3.out).mono ?_;rintro e w5 ⟨e5,fn,fA,fk,fc,fm,fB,fj,fd,rfl,b4⟩;exact hK.out _ _ ⟨_,rfl,(by simp only[Zao];exact⟨_,_,_,_,_,_,_,_,rfl,b4⟩),e5,trivial⟩
  ·intro ν wx hb hP
   have C:=J.trans (hb.mono J.size);have d9:=hP (22,54) (by simp) (by kernel_rfl);simp only[Zao]at d9;obtain⟨o3,n3,n2,p4,n6,n1,n7,n4,hν22,k6⟩:=d9;rw[hν22];refine Zl (i:=23) rfl (λK hK=>?_);go_simp;exact hK.out _ _ ⟨_,rfl,(by simp only[Zao];exact⟨_,_,_,_,_,_,_,_,rfl,k6⟩),Qb _ _,trivial⟩
 case hfin1 =>
  intro ν wx hb hP;have h2:=hP (2,34) (by simp);simp only[Zao]at h2;obtain⟨p9,q8,hν2,-⟩:=h2;have h3:=hP (3,35) (by simp);simp only[Zao]at h3;obtain⟨p7,r2,q4,q9,p8,r0,q7,q6,hν3,-⟩:=h3;have e2:=hP (20,52) (by simp);simp only[Zao]at e2;obtain⟨n0,o6,hν20,-⟩:=e2;have e1:=hP (21,53) (by simp);simp only[Zao]at e1;obtain⟨o4,o7,m9,o5,o0,p1,p2,p6,hν21,-⟩:=e1;have d9:=hP (22,54) (by simp);simp only[Zao]at d9;obtain⟨o2,n5,o8,p3,n8,n9,o9,p0,hν22,-⟩:=d9;have j1:=hP (23,55) (by simp);simp only[Zao]at j1;obtain⟨d7,c8,d4,c9,c6,c7,d6,b9,hν23,h4⟩:=j1;simp only[Qn,Qt,Zap,Qc,Zg4,Zgk,Zgx];rw[hν2,hν3,hν20,hν21,hν22,hν23];clear hν2 hν3 hν20 hν21 hν22 hν23 hP ν;have C:=J.trans (hb.mono J.size);have u:=C;have e3:=h4;clear C hb c4 hxs1 J h4;replace q0:=Za (Zc u q0.out);replace q1:=Za (Zc u q1.out);replace a5:=Za (a5.out.below u);replace a9:=Za (a9.out.below u);replace a8:=Za (a8.out.below u);replace q5:=Za (Zc u q5.out);have j7:=Za (h8.out.trans (u.mono h8.out.size));clear h8;replace g4:=Zb u g4;replace f4:=Zb u f4;replace e7:=Zb u e7;replace g0:=Zb u g0;replace f6:=Zb u f6;replace g2:=Zb u g2;replace g6:=Zb u g6;replace e9:=Zb u e9;replace g9:=Zb u g9;replace f8:=Zb u f8;replace g5:=Zb u g5;replace g7:=Zb u g7;replace d5:=Zb u d5
  replace c5:=Zb u c5;clear u;clear g4 f4 e7 g0 f6 g2 g6 e9 g9 f8 g5 g7 d5 c5;replace e3:=Za e3;obtain⟨x0,x1,x2,x3,f0,f1,f2,f3⟩:=q0.out.four;obtain⟨W5,m5,l3,q5,kW,kB,m7⟩:=Zal d7 c8 d4 c9 c6 c7 d6 b9 j7.out (Qa _) q0.out;have h9:=kB _ _ _ (by omega) q1.out;have k4:Fr W5 d7 c8 d4 c9 c6 c7 d6 b9 (x*x/(y*z)):=Fr.keep e3.out kW;have e0:=h9.cell 0;have z0:=h9.frozen 0;simp at e0;obtain⟨U,hU,b8,q3,i9,k3,-⟩:=Zy 0 l3 (Qk _) h9;have r4:=q3.cell 0;simp at r4;obtain⟨y0,y1,y2,y3,-⟩:=(k3 _ _ _ (by omega) q5).four;have m8:Hid (Fr U d7 c8 d4 c9 c6 c7 d6 b9 (x*x/(y*z))):=Za (Fr.keep k4 i9);clear kW kB m7 i9 k3 k4;refine Zm (i:=24) rfl (by kernel_rfl) (by kernel_rfl) (λK hK=>?_);go_simp;(try rw[m5]);refine hK.out _ _ ?_;clear hK K
  try simp only[Qc,Zg4,Zgk,Zgx,Gr,Gq,Gp]
  refine Zm (i:=25) rfl (by kernel_rfl) (by kernel_rfl) (λK hK=>?_);go_simp;(try rw[hU]);refine hK.out _ _ ?_;clear hK K
  try simp only[Qc,Zg4,Zgk,Zgx,Gr,Gq,Gp]
  refine wpAnyL_fin ?_;go_wp2_with fail;refine leaves_cons (f:=39) (args:=#[.pointer (some ⟨w.heap.size+1,0,none⟩)]) (by simp) (by simp[go_sem]) ?_;refine(Zc5 _ _).mono ?_;rintro e u' w'' ⟨rfl,rfl,rfl⟩;exact⟨.tuple #[.agg #[.bool d7,.slice c8 d4 c9,.bool c6,.slice c7 d6 b9],.int .i64 0],by simp[results,Tryz.results26,go_sem,r4,y0,y1,y2,y3],b8,.inl ⟨b5.out,_,_,_,_,_,_,_,_,rfl,by rw[hV.out];exact m8.out⟩⟩
theorem MatB.stepN{tS tF:TypeId}{w U:World}{go g:Nat}{L:List RF}(h:MatB tS tF w go L)(hs:Zvb w U g)(h1:go≠g)(h2:∀ r ∈ L,r.g≠g):MatB tS tF U go L:=by
 obtain⟨⟨zs,k1⟩,k2,k3⟩:=h;refine⟨⟨zs,hs.2.1 _ _ _ h1 k1⟩,λr hr=>⟨?_,(k2 r hr).2⟩,k3⟩;obtain⟨es,fs,q1,q2,q3⟩:=(k2 r hr).1;exact⟨es,fs,hs.2.1 _ _ _ (h2 r hr) q1,λe he=>Fr.keep (q2 e he) hs.1,q3⟩
theorem MatB.lts{tS tF:TypeId}{w:World}{go:Nat}{L:List RF}(h:MatB tS tF w go L):go<w.heap.size/\∀ r ∈ L,r.g<w.heap.size:=by
 obtain⟨⟨zs,k1⟩,k2,k3⟩:=h;refine⟨k1.lt,λr hr=>?_⟩;obtain⟨es,fs,q1,q2,q3⟩:=(k2 r hr).1;exact q1.lt
theorem Zf3{w:World}{g:Nat}{t:TypeId}{x x0:Int}{p:Addr}{v:Value}(hb:Blk w g t #[.int .i64 x0])(h:w.cell? p=some v)(hv:v ≠ .int .i64 x0):(w.setCell ⟨g,0,none⟩ (.int .i64 x)).cell? p=some v:=by
 by_cases e:(⟨g,0,none⟩:Addr)=p
 ·subst e
  have h2:=hb.cell 0;rw[h]at h2;simp at h2;exact absurd h2 hv
 exact(World.cell?_setCell_other _ _ _ _ e).trans h
theorem FL.code{w:World}{g:Nat}{t:TypeId}{x x0:Int}{A:Option Addr}{n c:Nat}{qs:List Rat}(h:FL w A n c qs)(hb:Blk w g t #[.int .i64 x0]):FL (w.setCell ⟨g,0,none⟩ (.int .i64 x)) A n c qs:=by
 obtain⟨W,hW,-,-,f⟩:=Zy x (Qb 0 w) (Nat.zero_le _) hb;obtain⟨es,h1,h2,h3,h4,h5,h6⟩:=h;refine⟨es,h1,h2,h3,λe he=>?_,h5,λhn=>?_⟩;rw[hW];exact Fr.keep (h4 e he) f.1
 ·obtain⟨g1,o1,e1,hc⟩:=h6 hn
  refine⟨g1,o1,e1,λk e he=>?_⟩;obtain⟨c1,c2,c3,c4⟩:=hc k e he;exact⟨Zf3 hb c1 (by simp),Zf3 hb c2 (by simp),Zf3 hb c3 (by simp),Zf3 hb c4 (by simp)⟩
theorem MFL.code{w:World}{g:Nat}{t:TypeId}{x x0:Int}{A:Option Addr}{n c:Nat}{Q:List (List Rat)}(h:MFL w A n c Q)(hb:Blk w g t #[.int .i64 x0]):MFL (w.setCell ⟨g,0,none⟩ (.int .i64 x)) A n c Q:=by
 obtain⟨h1,h2,h3,h4⟩:=h;refine⟨h1,h2,h3,λhn=>?_⟩;obtain⟨g1,o1,e1,hc⟩:=h4 hn;refine⟨g1,o1,e1,λk q hq=>?_⟩;obtain⟨A',n',c',c1,c2⟩:=hc k q hq;exact⟨A',n',c',Zf3 hb c1 (by simp),c2.code hb⟩
def OfX(rs:List RI)(ws:List Int)(X:Nat->Nat->Rat):Prop:=
 ofE rs ws=0->OfP rs ws rs.length (n0I rs) X/\Zg6 (λi j=>(Zah (Zar (n0I rs) 0 0 (Z8 (Zbc (Zc1 rs ws rs.length (n0I rs)) (n0I rs) (n0I rs) 0)) false 1).1 i j:Rat)) X (n0I rs) (n0I rs+n0I rs)
theorem sm8_nrm{rs:List RI}{rr ws:List Int}{n m:Nat}(hn:n<=200)(hE:Zdx rs rr ws=0):∀ r ∈ Zc1 rs ws n m,∀ q ∈ r,Sm8 q:=λr hr q hq=>by
 unfold Zc1 at hr;obtain⟨i,hi,rfl⟩:=List.mem_map.1 hr;obtain⟨j,hj,rfl⟩:=List.mem_map.1 hq;have hb:=Zm4 hn hE i j;have e:Zee rs ws n i j=((Zb9 ws (Zce rs i) (Zce rs j) n:Int):Rat):=rfl;rw[e]at hb;refine⟨Qh hb.num (Zc4 (by decide)),?_⟩;rw[hb.den];exact Qi Zef (Zb4 (by decide))
theorem ofS_sm:Sm Zd6:=(SmN.int (i:=3) (n:=1000000000000000000) (by decide +kernel)).sm (by decide) (by decide)
theorem ofX_sm{rs:List RI}{ws:List Int}{n m:Nat}{X:Nat->Nat->Rat}(hm:m<=12)(h:OfP rs ws n m X){k c:Nat}(hk:k<m)(hc:c<m):Sm (X k (m+c)):=by
 obtain⟨-,D,d1,d2,d3⟩:=h;obtain⟨h1,h2⟩:=(d3 c k hc hk).small d1;exact⟨Qh h1 (Zc4 (by omega)),Qh (Nat.le_trans h2 d2) (Zc4 (by omega))⟩
theorem Zln(A C:Option Addr)(n c k e0:Nat)(rs:List RI)(ws:List Int)(X:Nat->Nat->Rat)(w:World)(h:MIL w A n c rs)(hw:LimI w C k e0 ws)(hX:OfX rs ws X)(hF:∀ rt,Zew rt=Ze1 (ofQ X (n0I rs))->FacC rt) :
    Calls Tryz.prog 10 #[.slice A n c,.slice C k e0] w (OfPost rs ws X w):=by
 have hmx:=Gt
 have r9:=h.2.1;have o8:=h.2.2.1;unfold maxLen at o8;have r6:=hw.2.1;have n8:=hw.2.2.1;unfold maxLen at n8;obtain⟨W0,l7,b8,q5,s0⟩:=Zbe w 26 #[.int .i64 0];obtain⟨b,hb⟩:=Gz (rs.any RI.long6);have hC:=Za (Zug A n c rs W0 (h.below b8) b hb);replace h:=Za (h.below b8);replace hw:=Za (hw.below b8);replace hX:=Za hX;replace hF:=Za hF;replace hb:=Za hb;replace q5:=Za q5;replace b8:=Za b8;replace s0:=Za s0
 go_enter_defers Tryz.func10,Tryz.ntmps10
 go_wp2_with fail;(try rw[l7]);clear l7;refine(hC.out).mono ?_;rintro e w1 ⟨rfl,u⟩;replace h:=Za (h.out.below u);replace hw:=Za (hw.out.below u);replace q5:=Za (Zc u q5.out);have c5:=Za (b8.out.trans (u.mono b8.out.size));clear b8;clear u;clear hC;cases b with
 | true =>
  have b6:=Za (Zmj (ws:=ws) hb.out);go_wp2_with fail;refine(Zad 4 w1).mono ?_;rintro e w6 ⟨rfl,rfl⟩;go_wp2_with fail;refine leaves_cons (f:=39) (args:=#[.pointer (some ⟨w.heap.size,0,none⟩)]) (by simp) (by simp[go_sem]) ?_;have a2:=(q5.out).cell 0;simp at a2;refine(Z5 ⟨w.heap.size,0,none⟩ 4 0 _ a2 ((q5.out).frozen 0)).mono ?_;rintro e u' w'' ⟨rfl,rfl,a1⟩;obtain⟨V,hV,d7,-,-,hk,sV⟩:=Zr 117 #[.int .i64 4] (c5.out) ((c5.out).size);obtain⟨U,hU,d9,q3,-,kq,-⟩:=Zy 4 d7 (Qa _) (hk _ _ _ (q5.out));rw[hV,hU]at a1;subst a1;have r4:=q3.cell 0;simp at r4;exact⟨.tuple #[.slice none 0 0,.int .i64 4],by simp[results,Tryz.results10,go_sem,r4],OfPost.fall d9 b6.out (by decide)⟩
 | false =>
  go_wp2_with fail;refine(Za9 4 w1).mono ?_;rintro e w6 ⟨rfl,rfl⟩;obtain⟨E,hE⟩:=Gz (Zdx rs (Qe (min rs.length 200) 0) ws);have e6:=h.out.1;by_cases hE0:E=0
  case neg =>
   have b6:=Za (Zpp hb.out hE hE0);have d8:Hid (Zdx rs (Qe (min n 200) 0) ws=E):=Za (by rw[<- e6];exact hE);have t1:(E == 0)=false:=by simpa using hE0
   have r7:decide (E=0)=false:=by simpa using hE0
   have q4:(E != 0)=true:=by rw[bne,t1];rfl
   have m3:=Za hE0;replace hE:=Za hE;clear hE0;go_wp2_with fail;refine(Zrg A C n c k e0 rs ws w6 h.out hw.out E d8.out m3.out).mono ?_;rintro e w3 ⟨rfl,u⟩;replace h:=Za (h.out.below u);replace hw:=Za (hw.out.below u);replace q5:=Za (Zc u q5.out);have n5:=Za (c5.out.trans (u.mono c5.out.size));clear c5;clear u;obtain⟨U1,s2,h6,h0,-,-,-⟩:=Zy E n5.out (Qa _) q5.out;obtain⟨y0,z0⟩:_/\_:=⟨q5.out.cell 0,q5.out.frozen 0⟩;have x0:=h0.cell 0;simp at x0 y0;go_wp2_with fail;refine(Zad E U1).mono ?_;rintro e w7 ⟨rfl,rfl⟩;go_wp2_with fail;refine leaves_cons (f:=39) (args:=#[.pointer (some ⟨w.heap.size,0,none⟩)]) (by simp) (by simp[go_sem]) ?_;have a2:=(h0).cell 0;simp at a2;refine(Z5 ⟨w.heap.size,0,none⟩ E E _ a2 ((h0).frozen 0)).mono ?_;rintro e u' w'' ⟨rfl,rfl,a1⟩;obtain⟨V,hV,d7,-,-,hk,sV⟩:=Zr 117 #[.int .i64 E] (h6) ((h6).size);obtain⟨U,hU,d9,q3,-,kq,-⟩:=Zy E d7 (Qa _) (hk _ _ _ (h0));rw[hV,hU]at a1;subst a1;have r4:=q3.cell 0;simp at r4;exact⟨.tuple #[.slice none 0 0,.int .i64 E],by simp[results,Tryz.results10,go_sem,r4],OfPost.fall d9 b6.out m3.out⟩
  subst hE0;obtain⟨p1,p2,p3,p4,p5,p6,p7⟩:=Zvl h.out hE;obtain⟨m,hm⟩:=Gz (n0I rs);have n0:k=n:=by rw[<- hw.out.1,p6]
  subst n0;have d8:Zdx rs (Qe k 0) ws=0:=by rw[e6,Nat.min_eq_left p2]at hE;exact hE
  have hN:=Za (λW9 (h9:MIL W9 A k c rs) (k9:LimI W9 C k e0 ws)=>Zui A C k c e0 m rs ws W9 h9 k9 d8 hm);rw[hm]at p3 p4;have i1:=Za (Zuy (rs:=rs) (rr:=Qe k 0) (ws:=ws) (n:=k) (m:=m) p2 p4 d8);have l5:=Za (sm8_nrm (rs:=rs) (ws:=ws) (rr:=Qe k 0) (n:=k) (m:=m) p2 d8);have e4:=Za (And.intro (λhd:Zau m (Zee rs ws k)=0=>Zpy hb.out hE (by rw[hm,e6];exact hd)) (λhd:Zau m (Zee rs ws k)≠0=>Zz8 hb.out hE (by rw[hm,e6];exact hd)))
  have j5:Hid (Zau m (Zee rs ws k)≠0->OfP rs ws k m X/\Zg6 (λi j=>(Zah (Zar m 0 0 (Z8 (Zbc (Zc1 rs ws k m) m m 0)) false 1).1 i j:Rat)) X m (m+m)):=Za (λhd=>by
   have h9:=hX.out;unfold OfX at h9;rw[hm,e6]at h9;exact h9 (e4.out.2 hd))
  have e3:m<=12:=p4;have l6:0<m:=p3;replace d8:=Za d8;replace hE:=Za hE;replace hm:=Za hm;clear p1 p2 p3 p4 p5 p6 p7 hX;go_wp2_with fail;refine(hN.out w6 h.out hw.out).mono ?_;rintro e w5 ⟨gn,rfl,u,g7⟩;replace h:=Za (h.out.below u);replace hw:=Za (hw.out.below u);replace q5:=Za (Zc u q5.out);have m6:=Za (c5.out.trans (u.mono c5.out.size));clear c5;clear u;clear h;clear hw;clear hN;replace g7:=Za g7;obtain⟨U7,j2,c9,b7,i7⟩:=Zy 0 m6.out (Qa _) q5.out;have y0:=q5.out.cell 0;have z0:=q5.out.frozen 0;simp at y0;have x0:=b7.cell 0;simp at x0;have j9:=g7.out.code (x:=0) q5.out;rw[j2]at j9;obtain⟨i8,T,a6,l1⟩:=j9.mxl l5.out
  have d0:=Zzb T l6 e3 l6 e3 (λr hr=>by
   obtain⟨i9,q0,p8⟩:=Qo hr;have h9:=l1 i9 r (by rw[Qj q0,p8]);refine⟨?_,h9.2⟩;rw[h9.1];exact Zf9 (by have:=T.1;omega))
  have m2:Hid (sqE i8=0):=Za (by unfold sqE;rw[d0.1,d0.2,T.1];simp);replace T:=Za T;replace a6:=Za a6;replace c9:=Za c9;replace b7:=Za b7;clear j9 g7 l1 d0 i7;go_wp2_with fail;(try rw[j2]);clear j2 q5 m6 y0 z0;have q5:=b7;clear b7;refine(Za9 0 U7).mono ?_;rintro e w6 ⟨rfl,rfl⟩;clear x0;obtain⟨o1,o2,o3,o4,o5,o6,o7⟩:=i1.out;have m5:(Zar m 0 0 (Z8 (Zbc (Zc1 rs ws k m) m m 0)) false 1).2.1<=m:=by rw[o4];exact o5
  have e7:Hid ((Zar m 0 0 (Z8 (Zbc (Zc1 rs ws k m) m m 0)) false 1).2.1<m->Zau m (Zee rs ws k)=0):=Za (λh9=>o6 (by rw[<- o4];exact h9));have b2:Hid ((Zar m 0 0 (Z8 (Zbc (Zc1 rs ws k m) m m 0)) false 1).2.1=m->Zau m (Zee rs ws k)≠0):=Za (λh9=>(o7 (by rw[<- o4];exact h9)).1);have i5:=Za (λW9 (h9:MXL W9 (some ⟨gn,0,none⟩) m m i8)=>Zn0 (some ⟨gn,0,none⟩) m m i8 W9 h9 m2.out e3 (by rw[a6.out];exact o1) (by rw[a6.out];exact o3) (by rw[a6.out];exact m5) X (λh8=>by rw[a6.out]at h8 ⊢;exact(j5.out (b2.out h8)).2));clear o1 o2 o3 o4 o5 o6 o7 m5 i1 l5 m2;go_wp2_with fail;refine(i5.out w6 T.out).mono ?_;rintro e o0 hc;clear i5
  have u:Below w6.heap.size w6 o0:=by
   rcases hc with ⟨-,-,h9⟩|⟨-,gO,L,-,h9,-⟩;exact h9;exact h9
  have j1:Hid (w.heap.size<w6.heap.size):=Za q5.out.lt;clear T;replace q5:=Za (Zc u q5.out);have g0:=Za (c9.out.trans (u.mono c9.out.size));clear c9;clear u;rcases hc with ⟨j4,rfl,-⟩|⟨g9,gO,L,rfl,-,k8,g4,m7,k6⟩
  case inl =>
   rw[a6.out]at j4;have b6:=Za (e4.out.1 (e7.out j4));clear j4 a6;obtain⟨n6,m8,b4,a7,n1⟩:=Zy 18 g0.out (Qa _) q5.out;have y0:=q5.out.cell 0;have z0:=q5.out.frozen 0;simp at y0;have x0:=a7.cell 0;simp at x0;replace b4:=Za b4;replace a7:=Za a7;go_wp2_with fail;(try rw[m8]);refine(Zad 22 n6).mono ?_;rintro e w7 ⟨rfl,rfl⟩;go_wp2_with fail;refine leaves_cons (f:=39) (args:=#[.pointer (some ⟨w.heap.size,0,none⟩)]) (by simp) (by simp[go_sem]) ?_;have a2:=(a7.out).cell 0;simp at a2;refine(Z5 ⟨w.heap.size,0,none⟩ 22 18 _ a2 ((a7.out).frozen 0)).mono ?_;rintro e u' w'' ⟨rfl,rfl,a1⟩;obtain⟨V,hV,d7,-,-,hk,sV⟩:=Zr 117 #[.int .i64 22] (b4.out) ((b4.out).size);obtain⟨U,hU,d9,q3,-,kq,-⟩:=Zy 22 d7 (Qa _) (hk _ _ _ (a7.out));rw[hV,hU]at a1;subst a1;have r4:=q3.cell 0;simp at r4;exact⟨.tuple #[.slice none 0 0,.int .i64 22],by simp[results,Tryz.results10,go_sem,r4],OfPost.fall d9 b6.out (by decide)⟩
  rw[a6.out]at g9;have b6:=Za (e4.out.2 (b2.out g9));have p9:=Za (j5.out (b2.out g9)).1;clear g9 a6 e7 b2 j5 e4;have k3:Hid (w.heap.size<gO/\∀ r ∈ L,w.heap.size<r.g):=Za ⟨Qi j1.out m7,λr hr=>Qi j1.out (k6 r hr)⟩;have k5:Hid (L.length=m):=Za (by have h9:=congrArg List.length g4;rw[Qd]at h9;rw[h9];unfold Zjm;simp);obtain⟨n3,i2,a3,c7,g6⟩:=Zy 0 g0.out (Qa _) q5.out;have y0:=q5.out.cell 0;have z0:=q5.out.frozen 0;simp at y0;have x0:=c7.cell 0;simp at x0
  have o:=Za (k8.stepN g6 (by have:=k3.out.1;omega) (λr hr=>by have:=k3.out.2 r hr;omega));replace a3:=Za a3;replace c7:=Za c7;clear g6 k8 m7 k6 j1;go_wp2_with fail;(try rw[i2]);clear i2 q5 g0 y0 z0;have q5:=c7;clear c7;refine(Za9 22 n3).mono ?_;rintro e w6 ⟨rfl,rfl⟩;clear x0;go_wp2_with fail;refine(Zi9 1000000000000000000 w6 (by decide) (by decide)).mono ?_;rintro e m1 ⟨h2,sn,sA,sk,sc,sm,sB,sj,sd,rfl,sf⟩;replace q5:=Za (Zc h2 q5.out);replace o:=Za (o.out.below h2);have g1:=Za (a3.out.trans (h2.mono a3.out.size));clear a3;clear h2;replace sf:=Za sf;have i6:=Za o.out.lts;obtain⟨f8,b5⟩:=Gz m1.heap.size;obtain⟨q1,i4,f4,b9⟩:=Zq (w:=m1) 73 #[.bool sn,.slice sA sk sc,.bool sm,.slice sB sj sd];rw[b5]at f4;replace q5:=Za (Zc b9 q5.out);replace o:=Za (o.out.below b9);replace sf:=Za (sf.out.below b9);have i3:=Za (g1.out.trans (b9.mono g1.out.size));clear g1;clear b9;replace f4:=Za f4;have n4:Hid (∀ r ∈ L,r.g<f8):=Za (λr hr=>by have h9:=i6.out.2 r hr;have h8:=b5;omega);go_wp2_with fail;(try rw[b5]);(try rw[i4]);clear i4;replace b5:=Za b5;replace sf:Hid (Fr q1 sn sA sk sc sm sB sj sd Zd6):=Za sf.out
  have j8:Hid (∀ (j:Nat) (r:RF),L[j]?=some r->r.q.length=m):=Za (λj r hr=>by
   have h9:(L.map RF.q)[j]?=some r.q:=by rw[Qf,hr];rfl
   rw[g4]at h9;unfold Zjm at h9;rw[Qf]at h9;obtain⟨x9,-,e9⟩:=Option.map_eq_some_iff.1 h9;rw[<- e9];simp)
  have d4:Hid (∀ j c,j<m->c<m->Zh (L.map RF.q) j c=X j (m+c)):=Za (λj c hj hc=>by
   rw[g4];unfold Zjm Zh;rw[Qf,Qp hj,Option.map_some,Option.getD_some,Qf,Qp (by omega)];rfl)
  replace g4:=Za g4;clear i6
  go_loopg [38] m (λt iv wr=>∃ (i:Nat) (L2:List RF),i+t=m/\iv=.int .i64 i/\Hid (MatB 35 41 wr gO L2)/\Hid (ScT L L2 m i 0 Zd6)/\Hid (Blk wr f8 73 #[.bool sn,.slice sA sk sc,.bool sm,.slice sB sj sd])/\Hid (Fr wr sn sA sk sc sm sB sj sd Zd6)/\Hid (Blk wr w.heap.size 26 #[.int .i64 0])/\Hid (Below w.heap.size w wr))
  case atStart=>exact⟨0,L,by omega,rfl,o,Za (ScT.start k5.out j8.out),f4,sf,q5,i3⟩
  case round =>
   clear o f4 sf q5 i3;obtain⟨wi,rfl⟩:=Gy wr;obtain⟨i,L2,r5,rfl,o,I,qs,sf,q5,a4⟩:=hrel;cases gk with
   | zero =>
    obtain rfl:i=m:=by omega
    have t1:decide ((i:Int)<(i:Int))=false:=by simp
    have n9:Hid (L2.map RF.q=ofQ X i):=Za (by
     rw[I.out.done];unfold ofQ;refine Qq λj hj=>Qq λc hc=>?_;rw[d4.out j c (List.mem_range.1 hj) (List.mem_range.1 hc)])
    have d3:=o.out.mfl I.out.1 (Qa i) (by unfold maxLen;omega);rw[n9.out]at d3;obtain⟨rt,T,-,g5⟩:=d3.mxs;have l2:=hF.out rt (by rw[hm.out];exact g5);replace d3:=Za d3;replace T:=Za T;have k7:=Za (Zor (some ⟨gO,0,none⟩) i i rt wi T.out l2);clear l2 hF o qs sf;go_wp2_with fail;refine k7.out.mono ?_;rintro e w9 ⟨u,j0⟩;replace d3:=Za (d3.out.below u);replace q5:=Za (Zc u q5.out);have d6:=Za (a4.out.trans (u.mono a4.out.size));clear a4;clear u k7;rcases j0 with ⟨d5,rfl⟩|⟨d5,rfl⟩
    case inr =>
     replace d5:=Za d5;go_wp2_with fail;refine leaves_cons (f:=39) (args:=#[.pointer (some ⟨w.heap.size,0,none⟩)]) (by simp) (by simp[go_sem]) ?_;have a2:=(q5.out).cell 0;simp at a2;refine(Z5 ⟨w.heap.size,0,none⟩ 16 0 _ a2 ((q5.out).frozen 0)).mono ?_;rintro e u' w'' ⟨rfl,rfl,a1⟩;obtain⟨V,hV,d7,-,-,hk,sV⟩:=Zr 117 #[.int .i64 16] (d6.out) ((d6.out).size);obtain⟨U,hU,d9,q3,-,kq,-⟩:=Zy 16 d7 (Qa _) (hk _ _ _ (q5.out));rw[hV,hU]at a1;subst a1;have r4:=q3.cell 0;simp at r4;exact⟨.tuple #[.slice none 0 0,.int .i64 16],by simp[results,Tryz.results10,go_sem,r4],⟨d9,.inl ⟨b6.out,rt,by rw[hm.out];exact g5,.inr ⟨d5.out,rfl⟩⟩⟩⟩
    obtain⟨q2,f0,h3,f6,h5⟩:=Zy 0 d6.out (Qa _) q5.out;have y0:=q5.out.cell 0;have z0:=q5.out.frozen 0;simp at y0;have x0:=f6.cell 0;simp at x0;have h7:=Za (d3.out.code (x:=0) q5.out);rw[f0]at h7;replace d5:=Za d5;have r4:=f6.cell 0;simp at r4;clear h5;go_wp2_with fail;(try rw[f0]);refine leaves_cons (f:=39) (args:=#[.pointer (some ⟨w.heap.size,0,none⟩)]) (by simp) (by simp[go_sem]) ?_;refine(Zc5 _ _).mono ?_;rintro e u' w'' ⟨rfl,rfl,rfl⟩;exact⟨.tuple #[.slice (some ⟨gO,0,none⟩) i i,.int .i64 0],by simp[results,Tryz.results10,go_sem,r4],h3,.inl ⟨b6.out,rt,by rw[hm.out];exact g5,.inl ⟨d5.out,_,_,by rw[hm.out],by rw[hm.out];exact h7.out⟩⟩⟩
   | succ t' =>
    obtain rfl:t'=m-(i+1):=by omega
    have b1:i<m:=by omega
    have t1:decide ((i:Int)<(m:Int))=true:=Gv (by omega);have r8:decide (i<m)=true:=Gv b1;have bi:(i:Int)<(m:Int):=by omega
    have q9:IntKind.i64.wrap ((i:Int)+1)=(i:Int)+1:=IntWalk.i64_in _ (by omega);obtain⟨ri,f7⟩:=Zcr (L:=L2) (i:=i) (by rw[I.out.1];exact b1);obtain⟨r0,h4⟩:=Zcr (L:=L) (i:=i) (by rw[k5.out];exact b1);obtain⟨ci,zi⟩:=o.out.cell f7;rw[I.out.2.2.1 i ri f7]at ci;have kc:=(o.out.row f7).2;rw[I.out.2.2.1 i ri f7]at kc;have r1:=kc.1;have m9:=kc.2;unfold maxLen at m9;have m4:Hid (ri.g=r0.g):=Za (Z0j I.out.2.1 f7 h4);have k2:Hid (w.heap.size<ri.g/\ri.g<f8):=Za (by rw[m4.out];exact⟨k3.out.2 r0 (Qg h4),n4.out r0 (Qg h4)⟩);clear kc;go_wp2_with fail;clear ci zi
    go_loopg [44] m (λt kv wr=>∃ (k9:Nat) (L3:List RF),k9+t=m/\kv=.int .i64 k9/\Hid (MatB 35 41 wr gO L3)/\Hid (ScT L L3 m i k9 Zd6)/\Hid (Blk wr f8 73 #[.bool sn,.slice sA sk sc,.bool sm,.slice sB sj sd])/\Hid (Fr wr sn sA sk sc sm sB sj sd Zd6)/\Hid (Blk wr w.heap.size 26 #[.int .i64 0])/\Hid (Below w.heap.size w wr))
    case atStart=>exact⟨0,L2,by omega,rfl,o,I,qs,sf,q5,a4⟩
    case round =>
     clear o I qs sf q5 a4;obtain⟨wk,rfl⟩:=Gy wr;obtain⟨k9,L3,q7,rfl,o,I,qs,sf,q5,a4⟩:=hrel;cases gk with
     | zero =>
      obtain rfl:k9=m:=by omega
      have t2:decide ((k9:Int)<(k9:Int))=false:=by simp
      have o9:=Za I.out.next;clear I;go_wp2_with fail
      go_roundg (k9-(i+1))
      case measure=>omega
      case rel=>exact⟨i+1,L3,by omega,by go_num,o,o9,qs,sf,q5,a4⟩
     | succ t'' =>
      obtain rfl:t''=m-(k9+1):=by omega
      have b3:k9<m:=by omega
      have t2:decide ((k9:Int)<(m:Int))=true:=Gv (by omega);have q8:decide (k9<m)=true:=Gv b3;have bk:(k9:Int)<(m:Int):=by omega
      have s1:IntKind.i64.wrap ((k9:Int)+1)=(k9:Int)+1:=IntWalk.i64_in _ (by omega);obtain⟨r3,c6⟩:=Zcr (L:=L3) (i:=i) (by rw[I.out.1];exact b1);have c4:r3.g=ri.g:=(Z0j I.out.2.1 c6 h4).trans m4.out.symm;have f3:=I.out.2.2.1 i r3 c6;obtain⟨fn,fA,fk,fc,fm,fB,fj,fd,p0,p1,p2,p3,a0⟩:=(o.out.row c6).1.at_ (i:=k9) (by rw[f3];exact b3);rw[c4]at p0 p1 p2 p3
      have f5:r3.q[k9]?.getD 0=X i (m+k9):=by
       have h9:=I.out.2.2.2 i k9 b1 b3;rw[Gw (by omega),Znk,Zu2 c6]at h9;rw[h9];exact d4.out i k9 b1 b3
      rw[f5]at a0;have n2:Hid (Sm (X i (m+k9))):=Za (ofX_sm e3 p9.out b1 b3);replace a0:=Za a0;replace f5:=Za f5;replace c4:=Za c4;replace f3:=Za f3;obtain⟨q6,a9⟩:=Gz wk.heap.size;obtain⟨i0,e5,O,J⟩:=Zq (w:=wk) 41 #[.bool fn,.slice fA fk fc,.bool fm,.slice fB fj fd];rw[a9]at O;replace o:=Za (o.out.below J);replace qs:=Za (Zc J qs.out);replace sf:=Za (sf.out.below J);replace q5:=Za (Zc J q5.out);replace a0:=Za (a0.out.below J);have e1:=Za (a4.out.trans (J.mono a4.out.size));clear a4;clear J;replace O:=Za O;obtain⟨x0,x1,x2,x3,-⟩:=O.out.four;obtain⟨u0,u1,u2,u3,-⟩:=qs.out.four;obtain⟨l3,b0⟩:=Gz i0.heap.size;obtain⟨l4,g2,Y,y⟩:=Zq (w:=i0) 73 #[.bool sn,.slice sA sk sc,.bool sm,.slice sB sj sd];rw[b0]at Y;replace o:=Za (o.out.below y);replace qs:=Za (Zc y qs.out);replace sf:=Za (sf.out.below y);replace q5:=Za (Zc y q5.out);replace a0:=Za (a0.out.below y);replace O:=Za (Zc y O.out);have e2:=Za (e1.out.trans (y.mono e1.out.size));clear e1;clear y;replace Y:=Za Y;go_wp2_with fail;(try rw[a9]);(try rw[e5]);(try rw[b0]);(try rw[g2]);clear e5;replace a9:=Za a9;clear g2;replace b0:=Za b0;clear p0 p1 p2 p3 x0 x1 x2 x3 u0 u1 u2 u3;have g8:=Za (FL.sing1 Y.out sf.out)
      refine(Zbw fn fA fk fc fm fB fj fd _ (some ⟨l3,0,none⟩) 1 1 [Zd6] l4 a0.out g8.out (by decide) (Zdg n2.out) (Zeo ofS_sm)).mono ?_;rintro e c8 ⟨a5,pn,pA,pk,pc,pm,pB,pj,pd,rfl,pf⟩;replace o:=Za (o.out.below a5);replace qs:=Za (Zc a5 qs.out);replace sf:=Za (sf.out.below a5);replace q5:=Za (Zc a5 q5.out);replace a0:=Za (a0.out.below a5);replace O:=Za (Zc a5 O.out);replace Y:=Za (Zc a5 Y.out);replace g8:=Za (g8.out.below a5);have e8:=Za (e2.out.trans (a5.mono e2.out.size));clear e2;clear a5;rw[Zfw]at pf;clear g8;clear Y;clear O;clear a0
      obtain⟨l0,m0,l8,k4⟩:(c8.cell? ⟨ri.g,k9*4,none⟩).isSome/\(c8.cell? ⟨ri.g,k9*4+1,none⟩).isSome/\(c8.cell? ⟨ri.g,k9*4+2,none⟩).isSome/\(c8.cell? ⟨ri.g,k9*4+3,none⟩).isSome:=by
       obtain⟨_,_,_,_,_,_,_,_,c0,c1,c2,c3,-⟩:=(o.out.row c6).1.at_ (i:=k9) (by rw[f3.out];exact b3);rw[c4.out]at c0 c1 c2 c3;rw[c0,c1,c2,c3];exact⟨rfl,rfl,rfl,rfl⟩
      obtain⟨v0,c0⟩:=Option.isSome_iff_exists.1 l0;obtain⟨v1,c1⟩:=Option.isSome_iff_exists.1 m0;obtain⟨v2,c2⟩:=Option.isSome_iff_exists.1 l8;obtain⟨v3,c3⟩:=Option.isSome_iff_exists.1 k4;have a8:=(o.out.row c6).1;have z0:=a8.frozen (k9*4);have z1:=a8.frozen (k9*4+1);have z2:=a8.frozen (k9*4+2);have z3:=a8.frozen (k9*4+3);rw[c4.out]at z0 z1 z2 z3;obtain⟨bt,bcs,j3,l9⟩:=a8.box;have h1:=o.out.set_ c6 (k:=k9) (by rw[f3.out];exact b3) pf;obtain⟨U,hU⟩:=Gz (Zj3 c8 ri.g k9 pn pA pk pc pm pB pj pd);rw[c4.out]at h1 j3;rw[<- c4.out]at h1
      have f9:MatB 35 41 U gO (L3.set i ⟨r3.g,r3.c,r3.q.set k9 (X i (m+k9)*Zd6)⟩):=by
       rw[<- hU,<- c4.out];exact h1
      have n7:=Za (I.out.step c6 b1 b3 (x:=X i (m+k9)*Zd6) (by rw[d4.out i k9 b1 b3]));have j6:Blk U f8 73 #[.bool sn,.slice sA sk sc,.bool sm,.slice sB sj sd]:=by rw[<- hU];exact Zju qs.out (by have:=k2.out;omega)
      have j7:Blk U w.heap.size 26 #[.int .i64 0]:=by rw[<- hU];exact Zju q5.out (by have:=k2.out;omega)
      have k1:Fr U sn sA sk sc sm sB sj sd Zd6:=by rw[<- hU];exact Zlu sf.out j3 l9
      have k0:Below w.heap.size w U:=by rw[<- hU];exact Zi8 e8.out (by have:=k2.out;omega)
      unfold Zj3 at hU;replace f9:=Za f9;replace j6:=Za j6;replace j7:=Za j7;replace k1:=Za k1;replace k0:=Za k0;clear o I qs q5 sf a8 j3 l9 h1 l0 m0 l8 k4 e8 pf;have r2:=Ztw pn pA pk pc pm pB pj pd;go_wp2_with fail;(try rw[hU])
      go_roundg (m-(k9+1))
      case measure=>omega
      case rel=>exact⟨k9+1,_,by omega,by go_num,f9,n7,j6,k1,j7,k0⟩
