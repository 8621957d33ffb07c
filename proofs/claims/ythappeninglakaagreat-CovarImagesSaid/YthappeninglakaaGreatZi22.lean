/- Package covar: Image. The part and list of law 37. Package -/
import Derived.Deep.LoopGhost
import Derived.Test.YthappeninglakaaGreatZi21
set_option maxRecDepth 100000
set_option maxHeartbeats 8000000
set_option linter.unusedSimpArgs false
set_option linter.unusedVariables false
namespace Go.Proofs.YthappeninglakaaGreat
open Go.RowKit
open Act renaming put→Qa
open Below renaming refl→Qb
open Nat renaming le_refl→Qc,mul_lt_mul''→Qj
open Int renaming natAbs_natCast→Qd,natAbs_mul→Qn,le_ediv_iff_mul_le→Qr,mul_nonneg→Qt
open List renaming getElem?_eq_getElem→Qe,map_cons→Qf,map_nil→Qg,take_of_length_le→Qi,mem_of_getElem?→Qk,getElem_of_mem→Ql,length_take→Qo,not_mem_nil→Qp,length_map→Qq,mem_cons→Qu,mem_map_of_mem→Qv,mem_singleton→Qw,getElem?_map→Qy,length_cons→Qz,length_nil→QB
open Rat renaming intCast_mul→Qh,intCast_natCast→Qm,mul_nonneg→Qs,divInt→QA
open Blk renaming new→Qx
attribute [local go_sem] Zg
theorem Z2s:Sm 0:=⟨Zbt _,by show (1:Nat)<_;rw[show (1000:Nat)=999+1 by rfl,Zaz];have:=Zbt 999;omega⟩
theorem CX{G:Prop}(h:G:=by
 rw[hV,hU]at hw;subst hw;have r4:=q3.cell 0;simp at r4;exact⟨.tuple #[.slice none 0 0,.int .i64 8],by simp[results,Tryz.results34,go_sem,r4],ImgPost.fall aS aO (by first|decide|assumption|exact dh.out)⟩):G:=h
theorem Ed{G:Prop}(h:G:=by
 replace hq:=Za hq;replace hb:=Za hb;go_wp2_with fail;refine(Zai 8 w2).mono ?_;rintro e w6 ⟨rfl,rfl⟩;go_wp2_with fail;refine leaves_cons (f:=39) (args:=#[.pointer (some ⟨w.heap.size,0,none⟩)]) Gh Ge ?_;have e0:=(gK).cell 0;simp at e0;refine(Zae ⟨w.heap.size,0,none⟩ 8 0 _ e0 ((gK).frozen 0)).mono ?_;rintro e u' w'' ⟨rfl,rfl,hw⟩;obtain⟨V,hV,aR,-,-,hk,sV⟩:=Zn 117 #[.int .i64 8] (aq) ((aq).size);obtain⟨U,hU,aS,q3,-⟩:=Z8 8 aR (Nat.le_refl _) (hk _ _ _ (gK));exact CX):G:=h
theorem Zn5(A:Option Addr)(n c:Nat)(rs:List RX)(B:Option Addr)(m d:Nat)(ri:List RI)(w:World)(h:MXL w A n c rs)(hv:MIL w B m d ri)(hF:FacC rs)(hS4:Zlh 4 rs)(hn4:Zat rs=0->n<=4)(hm4:m<=4 \/ 6<m)(hm9:m<=100) :
    Calls Tryz.prog 34 #[.slice A n c,.slice B m d] w (ImgPost rs (ri.map RI.l) w):=by
 obtain⟨iF,hi,t9,w9,r2⟩:=info_parts Zd6;obtain⟨iS,ki,r5,p9,s8⟩:=info_parts Zhb;have hmx:=Gt;have r3:(35:TypeId)≠41:=Gj;have b5:=Za h.1;have υ6:=Za hv.1;obtain⟨js,d4⟩:=Gz (ri.map RI.l);have u:Hid (js.length=m):=Za (by rw[<- d4,Qq];exact υ6.out);have c6:Hid (∀ (i:Nat) (r:RI),ri[i]?=some r->js[i]?=some r.l):=Za (λi r hr=>by rw[<- d4,Qy,hr];rfl);rw[d4];replace d4:=Za d4;have y0:=hv.2.1;have r0:=hv.2.2.1;have y3:=h.2.1;have q9:=h.2.2.1;unfold maxLen at q9 r0;obtain⟨W0,m3,c5,q0,s0⟩:=Zam w 26 #[.int .i64 0];have hC:=Za (Zgj A n c rs W0 (h.below c5) hF);have hH:=Za h;have m2:=Za hv;replace q0:=Za q0;clear h hv s0
 go_enter_defers Tryz.func34,Tryz.ntmps34
 go_wp2_with fail;(try rw[m3]);refine hC.out.mono ?_;rintro e w1 ⟨e8,⟨h0,v1,v2,L0,rfl,-⟩|⟨h0,rfl⟩⟩
 case inr =>
  have b1:=Gs c5 e8;have q2:=Zc e8 q0.out;obtain⟨E,hE⟩:=Gz (Zat rs);rw[hE]at h0 ⊢;have dh:=Za h0;have aO:=Z1e (js:=js) hE h0;replace hE:=Za hE;go_wp2_with fail;refine leaves_cons (f:=39) (args:=#[.pointer (some ⟨w.heap.size,0,none⟩)]) Gh Ge ?_;have e0:=(q2).cell 0;simp at e0;refine(Zae ⟨w.heap.size,0,none⟩ E 0 _ e0 ((q2).frozen 0)).mono ?_;rintro e u' w'' ⟨rfl,rfl,hw⟩;obtain⟨V,hV,aR,-,-,hk,sV⟩:=Zn 117 #[.int .i64 E] (b1) ((b1).size);obtain⟨U,hU,aS,q3,-⟩:=Z8 E aR (Qc _) (hk _ _ _ (q2));rw[hV,hU]at hw;subst hw;have r4:=q3.cell 0;simp at r4;exact⟨.tuple #[.slice none 0 0,.int .i64 E],by simp[results,Tryz.results34,go_sem,r4],ImgPost.fall aS aO (by first|decide|assumption|exact dh.out)⟩
 have b1:=Gs c5 e8;have q1:=Gm e8 q0;obtain⟨c8,x4,t8⟩:=Zew h0;have hM:=Za (c8.good hH.out);have e3:Hid (∀ a,a<n->((qM rs)[a]?.getD []).length=n):=Za (λa ha=>c8.row hH.out a ha);have i4:Hid (SmE 4 (qM rs)):=Za (c8.small hH.out hS4);have i2:n<=4:=hn4 h0;have g7:0<n:=by rw[<- b5.out];exact c8.facts.1
 have h8:Hid ((qM rs).length=n):=Za (Zn8 hH.out);have f8:=Za h0;clear h0 c8 x4 t8 q0 hC e8 c5 m3;by_cases hm6:6<m
 case pos =>
  have t1:decide ((m:Int)<=6)=false:=Gu Gk;have aO:=Zyx f8.out (js:=js) (by rw[u.out];exact hm6);go_wp2_with fail;refine(Zai 4 w1).mono ?_;rintro e w6 ⟨rfl,rfl⟩;go_wp2_with fail;refine leaves_cons (f:=39) (args:=#[.pointer (some ⟨w.heap.size,0,none⟩)]) Gh Ge ?_;have e0:=(q1.out).cell 0;simp at e0;refine(Zae ⟨w.heap.size,0,none⟩ 4 0 _ e0 ((q1.out).frozen 0)).mono ?_;rintro e u' w'' ⟨rfl,rfl,hw⟩;obtain⟨V,hV,aR,-,-,hk,sV⟩:=Zn 117 #[.int .i64 4] (b1) ((b1).size);obtain⟨U,hU,aS,q3,-⟩:=Z8 4 aR (Qc _) (hk _ _ _ (q1.out));rw[hV,hU]at hw;subst hw;have r4:=q3.cell 0;simp at r4;exact⟨.tuple #[.slice none 0 0,.int .i64 4],by simp[results,Tryz.results34,go_sem,r4],ImgPost.fall aS aO (by first|decide|assumption|exact dh.out)⟩
 have t1:decide ((m:Int)<=6)=true:=Gv Gk;have o4:m<=4:=Gk;by_cases c2:m=0
 case pos =>
  have t2:decide ((0:Int)<(m:Int))=false:=Gu Gk;have p0:decide (0<m)=false:=Gu Gk;have aO:=Z23 f8.out (js:=js) (by rw[u.out];exact c2);replace c2:=Za c2;go_wp2_with fail;refine(Zbi 4 w1).mono ?_;rintro e w1 ⟨rfl,rfl⟩;go_wp2_with fail;refine(Zai 8 w1).mono ?_;rintro e w6 ⟨rfl,rfl⟩;go_wp2_with fail;refine leaves_cons (f:=39) (args:=#[.pointer (some ⟨w.heap.size,0,none⟩)]) Gh Ge ?_;have e0:=(q1.out).cell 0;simp at e0;refine(Zae ⟨w.heap.size,0,none⟩ 8 0 _ e0 ((q1.out).frozen 0)).mono ?_;rintro e u' w'' ⟨rfl,rfl,hw⟩;obtain⟨V,hV,aR,-,-,hk,sV⟩:=Zn 117 #[.int .i64 8] (b1) ((b1).size);obtain⟨U,hU,aS,q3,-⟩:=Z8 8 aR (Qc _) (hk _ _ _ (q1.out));exact CX
 have t2:decide ((0:Int)<(m:Int))=true:=Gv Gk;have p0:decide (0<m)=true:=Gv Gk;replace c2:=Za c2;go_wp2_with fail;refine(Zbi 4 w1).mono ?_;rintro e w1 ⟨rfl,rfl⟩;go_wp2_with fail;refine(Zbi 8 w1).mono ?_;rintro e w1 ⟨rfl,rfl⟩;go_wp2_with fail
 go_loopg [30] m (λt iv wr=>∃ i:Nat,i+t=m/\iv=.int .i64 i/\Hid (∀ (k:Nat) (l:List Int),k<i->js[k]?=some l->Zk6 rs.length l=true)/\Below w1.heap.size w1 wr)
 case atStart=>exact⟨0,by omega,rfl,Za (λk l hk=>by omega),Qb _ _⟩
 case round =>
  obtain⟨wi,rfl⟩:=Gy wr;obtain⟨i,y4,rfl,c9,aW⟩:=hrel;have C:=Gs b1 aW;cases gk with
  | succ t =>
   obtain rfl:t=m-(i+1):=Gk;have υ9:i<m:=Gk;have t3:decide ((i:Int)<(m:Int))=true:=Gv Gk;have bi:(i:Int)<(m:Int):=Gk;obtain⟨g,o,⟨aA,aN,aC,aL⟩,rfl,he,c0,y⟩:=(m2.out.below C).at_ υ9;simp only at c0 y;have f4:=y.1;have y7:=y.2.1;have r9:=y.2.2.1;unfold maxLen at r9;have e2:Hid (js[i]?=some aL):=Za (c6.out i _ he);have qi:=Gm aW q1;obtain⟨b,hb⟩:=Gz (Zop aL);have q6:=Za (λW1 (hbb:Below wi.heap.size wi W1)=>Zvu aA aN aC aL W1 (y.below hbb) b hb);have i0:Hid (Zk6 rs.length aL=false->Zh0 rs js=8):=Za (λhf=>Z0q f8.out (by rw[u.out];exact hm6) (Qk e2.out) hf)
   have j8:Hid (Zk6 rs.length aL=true->∀ (k:Nat) (l:List Int),k<i+1->js[k]?=some l->Zk6 rs.length l=true):=Za (λhf k l hk hl=>by
    rcases Nat.lt_or_ge k i with h'|h';exact c9.out k l h' hl;obtain rfl:k=i:=Gk;rw[e2.out]at hl;cases hl;exact hf)
   replace he:=Za he;replace f4:=Za f4;clear y;go_wp2_with fail;refine(q6.out _ (by first|exact Qb _ _|exact Zf (Qb _ _) _)).mono ?_;rintro e w2 ⟨rfl,aa⟩;have gK:=Zc aa qi.out;have aq:=Gs C aa;by_cases hq:aN=n
   case neg =>
    have t4:((aN:Int) == (n:Int))=false:=beq_eq_false_iff_ne.2 Gk;have r7:decide (aN=n)=false:=by simpa using hq
    have aO:=i0.out (by unfold Zk6;rw[f4.out,b5.out,Gu hq];rfl);exact Ed
   have t4:((aN:Int) == (n:Int))=true:=beq_iff_eq.2 Gk;have r7:decide (aN=n)=true:=by simpa using hq
   cases b
   ·have ar:=Za (j8.out (by unfold Zk6;rw[f4.out,b5.out,hb,Gv hq];rfl))
    replace hq:=Za hq;replace hb:=Za hb;exact FU
   have aO:=i0.out (by unfold Zk6;rw[hb];simp);exact Ed
  | zero =>
   obtain rfl:m=i:=Gk;have t3:decide ((m:Int)<(m:Int))=false:=Gh
   have b3:Hid (∀ l ∈ js,l.length=n/\Zfi l):=Za (λl hl=>by
    obtain⟨k,hk,e⟩:=Ql hl;have:=c9.out k l (by rw[<- u.out];exact hk) (by rw[Qe hk,e]);have h2:=Zzp this;rw[b5.out]at h2;exact h2)
   have aO:Hid (Zh0 rs js=0):=Za (Zxr f8.out (by rw[u.out];exact hm6) (by rw[u.out];exact c2.out) (λl hl=>by
    obtain⟨k,hk,e⟩:=Ql hl;exact c9.out k l (by rw[<- u.out];exact hk) (by rw[Qe hk,e])))
   have k6:Hid (Blk wi w.heap.size 26 #[.int .i64 0]):=Gm aW q1;have m9:Hid (w.heap.size<wi.heap.size):=Za k6.out.lt;have v6:=Za (hM.out.below C);have l5:=Za (m2.out.below C);clear q1;go_wp2_with fail
   go_loopg [9,49] m (λt ov jv wr=>∃ (j:Nat) (L:List RS),j+t=m/\jv=.int .i64 j/\MatOA 35 41 wr wi.heap.size ov L ((Zhp (Zh (qM rs)) n js).take j)/\Below wi.heap.size wi wr)
   case atStart=>exact⟨0,[],by omega,rfl,MatOA.nil _ _ _ _,Qb _ _⟩
   case round =>
    obtain⟨wj,rfl⟩:=Gy wr;obtain⟨j,L1,y8,rfl,a6,a0⟩:=hrel;have w0:Hid (L1.length=j):=Za (by rw[a6.2.1,Qo,Zfz,u.out];omega);obtain⟨oA,on_,oc,rfl⟩:=a6.1.isSlP;cases gk with
    | zero =>
     obtain rfl:m=j:=Gk;have t4:decide ((m:Int)<(m:Int))=false:=Gh;have f6:(Zhp (Zh (qM rs)) n js).take m=Zhp (Zh (qM rs)) n js:=Qi (by rw[Zfz,u.out];exact Qc _);rw[f6]at a6;obtain⟨a7,a9,e7,k4⟩:=a6.mflA;rw[Zfz,u.out]at e7 k4;cases e7;obtain⟨rt,f7,k8,f5⟩:=k4.mxs;have s9:Hid (FacC rt):=Za (img_fac (n:=n) i4.out i2 h8.out e3.out g7 (λa ha=>(b3.out a ha).2) (by rw[u.out];exact o4) k8 (by rw[f7.1,u.out]));replace f5:=Za f5;replace k8:=Za k8;replace f7:=Za f7;replace a6:=Za a6;clear k4;go_wp2_with fail;refine(Zpu _ m _ rt wj f7.out s9.out).mono ?_;rintro e w5 ⟨b4,⟨i6,rfl⟩|⟨i8,rfl⟩⟩
     ·have q5:=Zc (Gs a0 b4) k6.out
      have g6:Below w.heap.size w w5:=C.trans ((Gs a0 b4).mono C.size);have h5:=a6.out.kept b4;have e0:=q5.cell 0;have z0:=q5.frozen 0;simp at e0;obtain⟨U,hU,aS,q3,-⟩:=Z8 0 g6 (Qc _) q5;have r4:=q3.cell 0;simp at r4;have n3:Kept (λk=>k=w.heap.size) w5 U:=by rw[<- hU];exact Kept.set_ (G:=λk=>k=w.heap.size) (Kept.refl _ _) (p:=⟨w.heap.size,0,none⟩) (.inl rfl) _
      have s6:=Za ((h5.boxC q5 (Zqe _) m9.out n3).lowerC (Nat.le_of_lt m9.out));replace i6:=Za i6;clear n3 q5 h5;go_wp2_with fail;(try rw[hU]);refine leaves_cons (f:=39) (args:=#[.pointer (some ⟨w.heap.size,0,none⟩)]) Gh Ge ?_;refine(Zdv _ _).mono ?_;rintro e u' w'' ⟨rfl,rfl,rfl⟩;refine⟨.tuple #[.slice oA m oc,.int .i64 0],by simp[results,Tryz.results34,go_sem,r4],aS,.inl ⟨aO.out,rt,by rw[b5.out];exact f5.out,.inl ⟨i6.out,_,L1,rfl,?_⟩⟩⟩;rw[b5.out];exact s6.out
     have q5:=Zc (Gs a0 b4) k6.out;have g6:Below w.heap.size w w5:=C.trans ((Gs a0 b4).mono C.size);replace i8:=Za i8;go_wp2_with fail;refine leaves_cons (f:=39) (args:=#[.pointer (some ⟨w.heap.size,0,none⟩)]) Gh Ge ?_;have e0:=q5.cell 0;simp at e0;refine(Zae ⟨w.heap.size,0,none⟩ 16 0 _ e0 (q5.frozen 0)).mono ?_;rintro e u' w'' ⟨rfl,rfl,hw⟩;obtain⟨V,hV,aR,-,-,hk,sV⟩:=Zn 117 #[.int .i64 16] g6 (g6.size);obtain⟨U,hU,aS,q3,-⟩:=Z8 16 aR (Qc _) (hk _ _ _ q5);rw[hV,hU]at hw;subst hw;have r4:=q3.cell 0;simp at r4;exact⟨.tuple #[.slice none 0 0,.int .i64 16],by simp[results,Tryz.results34,go_sem,r4],aS,.inl ⟨aO.out,rt,by rw[b5.out];exact f5.out,.inr ⟨i8.out,rfl⟩⟩⟩
    | succ t =>
     obtain rfl:t=m-(j+1):=Gk;have n1:j<m:=Gk;have t4:decide ((j:Int)<(m:Int))=true:=Gv Gk;have bj:(j:Int)<(m:Int):=Gk;obtain⟨gJ,oJ,⟨aA,aN,aC,aL⟩,rfl,he,c0,y⟩:=l5.out.at_ n1;simp only at c0 y;have e2:Hid (js[j]?=some aL):=Za (c6.out j _ he);obtain⟨d5,a2⟩:=b3.out aL (Qk e2.out);have w4:n=aN:=by rw[<- d5];exact y.1
     subst w4;obtain⟨gA,p3,rfl,r6⟩:=y.atC g7;have x6:=y.2.1;have m7:=y.2.2.1;unfold maxLen at m7;have k3:Hid (js[j]?.getD []=aL):=Za (by rw[e2.out];rfl);have p8:=Zb a0 c0;replace a2:=Za a2;replace d5:=Za d5;replace y:=Za y;replace he:=Za he;replace a6:=Za a6;clear r6;go_wp2_with fail
     go_loopg [12,55] m (λt rv kv wr=>∃ k:Nat,k+t=m/\kv=.int .i64 k/\OwnF 41 wr wj.heap.size rv ((Zeb (Zh (qM rs)) n js aL).take k)/\Below wj.heap.size wj wr)
     case atStart=>exact⟨0,by omega,rfl,by simpa using OwnF.nil 41 wj wj.heap.size,Qb _ _⟩
     case round =>
      clear p8;obtain⟨wk,rfl⟩:=Gy wr;obtain⟨k,y2,rfl,hO,g4⟩:=hrel;have J:Below wi.heap.size wi wk:=Gs a0 g4;obtain⟨rA,rc,e9,j4⟩:=hO.fl;have n5:((Zeb (Zh (qM rs)) n js aL).take k).length=k:=by rw[Qo,Zjl,u.out];omega
      rw[n5]at e9 j4;subst e9;cases gk with
      | zero =>
       obtain rfl:m=k:=Gk;have t5:decide ((m:Int)<(m:Int))=false:=Gh;have k7:=a6.out.kept g4
       have p5:Hid (∀ s ∈ L1,∀ k',s.val.ownBlock=some k'->k'<wj.heap.size):=Za (λs hs k' hk'=>by
        obtain⟨q,hq,e⟩:=Ql hs;exact(a6.out.2.2.1 q s (by rw[Qe hq,e])).blt k' hk')
       obtain⟨Y1,T⟩:=Gz (wk.alloc (.cells #[.slice rA m rc] 35));obtain⟨gz,e5⟩:=Gz wk.heap.size;have b7:Below wk.heap.size wk Y1:=by rw[<- T];exact(Qb _ _).alloc (Qc _) _
       have j5:Blk Y1 gz 35 #[.slice rA m rc]:=by rw[<- T,<- e5];exact Qx _ _ _
       have n2:=k7.kept b7;have c3:=hO.kept b7;have h7:Below wi.heap.size wi Y1:=Gs J b7;have r8:L1.length+1<=1000:=by rw[w0.out];omega
       have h3:=n2.1;have d7:=h7.size;replace hO:=Za hO;replace k7:=Za k7;replace c3:=Za c3;clear j4;go_wp2_with ((try rw[T]);(try rw[e5]);at_builtin;refine Zfs _ rfl (.tmp 101) (.tmp 103) 25 rfl wi.heap.size 35 iS Tryz.underlying25 ki r5 p9 s8 _ L1 rfl h3 _ (some ⟨gz,0,none⟩) 1 1 [⟨rA,m,rc⟩] rfl (Zev j5) rfl r8 d7 ?_;intro v5 w5 v8 o7 r1);have dV:=n2.snoc r3 (r:=⟨rA,m,rc⟩) c3.out a0.size p5.out v8 o7 r1;have aG:=h7.grown o7 d7 (λk hk=>h3.row_ge k hk);have l3:(Zeb (Zh (qM rs)) n js aL).take m=Zeb (Zh (qM rs)) n js aL:=Qi (by rw[Zjl,u.out];exact Qc _);have c7:=Zx4 (n:=n) (Q:=Zh (qM rs)) (js:=js) (k:=j) (by rw[u.out];exact n1);rw[k3.out]at c7;rw[l3,c7]at dV;exact Ib
      | succ t' =>
       obtain rfl:t'=m-(k+1):=Gk;have h4:k<m:=Gk;have t5:decide ((k:Int)<(m:Int))=true:=Gv Gk;have bk:(k:Int)<(m:Int):=Gk;obtain⟨y9,y6,⟨bA,bN,bC,bL⟩,eJ,l2,o3,b2⟩:=l5.out.at_ h4;simp only at o3 b2;cases eJ;have h1:Hid (js[k]?=some bL):=Za (c6.out k _ l2);obtain⟨e4,a3⟩:=b3.out bL (Qk h1.out);have υ7:n=bN:=by rw[<- e4];exact b2.1
       subst υ7;obtain⟨gB,o9,rfl,p4⟩:=b2.atC g7;have x7:=b2.2.1;have l9:=b2.2.2.1;unfold maxLen at l9;have k5:Hid (js[k]?.getD []=bL):=Za (by rw[h1.out];rfl);have n7:=Zb J o3;have i1:Hid (∀ i t,i<=n->t<=n->(i=n->t=0)->Sm (imT (Zh (qM rs)) n aL bL i t)):=Za (λi t hi ht hit=>Z1v i4.out i2 h8.out e3.out a2.out a3 g7 hi ht hit);have k1:Hid (∀ i t,Sm (Zh (qM rs) i t)/\Sm ((gI aL i:Int):Rat)/\Sm ((gI bL t:Int):Rat)/\Sm (Zh (qM rs) i t*((gI aL i:Int):Rat))/\Sm (Zh (qM rs) i t*((gI aL i:Int):Rat)*((gI bL t:Int):Rat))):=Za (λi t=>term_sm i4.out a2.out a3 i t);replace a3:=Za a3;replace e4:=Za e4;replace b2:=Za b2;replace l2:=Za l2;replace hO:=Za hO;clear j4 p4;go_wp2_with fail;refine(Zjo 0 wk Gj Gj).mono ?_;rintro e w2 ⟨aa,zn,zA,zk,zc,zm,zB,zj,zd,rfl,m6⟩;obtain⟨V1,s5,d0,a1,s1⟩:=Zam w2 73 #[.bool false,.slice none 0 0,.bool false,.slice none 0 0];obtain⟨gs,b6⟩:=Gz w2.heap.size;rw[b6]at a1 s1;obtain⟨υ0,υ1,υ2,υ3,v0,v1',v2',v3⟩:=a1.four;obtain⟨W4,m0,a4,l4,s4⟩:=Zau zn zA zk zc zm zB zj zd a1;have d9:Below w2.heap.size w2 W4:=d0.trans (l4.to_below (λk e=>by omega) d0.size);have v4:Hid (W4.heap.size=gs+1):=Za (by rw[s4,s1]);have l7:Hid (Fr W4 zn zA zk zc zm zB zj zd (imT (Zh (qM rs)) n aL bL 0 0)):=Za (by rw[Zps];exact m6.below d9)
       have b0:Hid (Below wk.heap.size wk W4):=Za (Gs aa d9);replace a4:=Za a4;replace d9:=Za d9;clear m6 d0 l4 s1 s4;go_wp2_with fail;(try rw[b6]);(try rw[m0]);have i3:Hid (wk.heap.size<=gs):=Za (by rw[<- b6];exact aa.size);clear υ0 υ1 υ2 υ3 v0 v1' v2' v3 a1 s5 m0 n7 aa d9;replace b6:=Za b6
       go_loopg [62] n (λt iv wr=>∃ (i:Nat) (sn:Bool) (sA:Option Addr) (sk sc:Nat) (sm:Bool) (sB:Option Addr) (sj sd:Nat),i+t=n/\iv=.int .i64 i/\Blk wr gs 73 #[.bool sn,.slice sA sk sc,.bool sm,.slice sB sj sd]/\Hid (Fr wr sn sA sk sc sm sB sj sd (imT (Zh (qM rs)) n aL bL i 0))/\Kept (λg=>g=gs) W4 wr)
       case atStart=>exact⟨0,_,_,_,_,_,_,_,_,by omega,rfl,a4.out,l7,Kept.refl _ _⟩
       case round =>
        clear a4 l7;obtain⟨wa,rfl⟩:=Gy wr;obtain⟨i,sn,sA,sk,sc,sm,sB,sj,sd,x8,rfl,O,c4,a8⟩:=hrel;have m4:=v4.out;cases gk with
        | zero =>
         obtain rfl:n=i:=Gk;have t6:decide ((n:Int)<(n:Int))=false:=Gh;have l8:wk.heap.size<=gs:=by have:=b0.out.size;have:=m4;have h9:=b6.out;(have:=i3.out;omega)
         have e6:Below wk.heap.size wk wa:=b0.out.trans (a8.to_below (λk e=>by omega) b0.out.size);obtain⟨s0,s1,s2,s3,-⟩:=O.four;obtain⟨Y1,T⟩:=Gz (wa.alloc (.cells #[.bool sn,.slice sA sk sc,.bool sm,.slice sB sj sd] 41));obtain⟨gz,e5⟩:=Gz wa.heap.size;have b7:Below wa.heap.size wa Y1:=by rw[<- T];exact(Qb _ _).alloc (Qc _) _
         have j5:Blk Y1 gz 41 #[.bool sn,.slice sA sk sc,.bool sm,.slice sB sj sd]:=by rw[<- T,<- e5];exact Qx _ _ _
         have c3:=(hO.out.kept e6).kept b7;have p1:=c4.out.below b7;have n9:Below wj.heap.size wj Y1:=g4.trans ((Gs e6 b7).mono g4.size);have d7:=n9.size;have n0:((Zeb (Zh (qM rs)) n js aL).take k).length+1<=1000:=by rw[n5];omega
         have z7:=O;go_wp2_with ((try rw[T]);(try rw[e5]);at_builtin;refine Zcu _ rfl (.tmp 95) (.tmp 98) 35 rfl wj.heap.size 41 iF Tryz.underlying35 hi t9 w9 r2 _ _ rfl c3 _ (some ⟨gz,0,none⟩) 1 1 [⟨sn,sA,sk,sc,sm,sB,sj,sd,imT (Zh (qM rs)) n aL bL n 0⟩] rfl (Zb9 _ j5) rfl (by intro e he;rw[Qw]at he;subst he;exact p1) n0 d7 ?_;intro v7 w7 d8 υ8 y5);have υ4:=n9.grown υ8 d7 (λk hk=>c3.row_ge k hk);simp only[Qf,Qg]at d8;have c7:=Zsw (n:=n) (Q:=Zh (qM rs)) (js:=js) (a:=aL) (k:=k) (by rw[u.out];exact h4);rw[k5.out]at c7;rw[c7]at d8;replace d8:=Za d8
         go_roundg (m-(k+1))
         case measure=>omega
         case rel=>exact⟨k+1,by omega,by go_num,d8.out,υ4⟩
        | succ t6' =>
         obtain rfl:t6'=n-(i+1):=Gk;have j7:i<n:=Gk;have t6:decide ((i:Int)<(n:Int))=true:=Gv Gk;have bin:(i:Int)<(n:Int):=Gk;replace O:=Za O;replace a8:=Za a8;go_wp2_with fail
         go_loopg [67] n (λt xv wr=>∃ (x:Nat) (sn:Bool) (sA:Option Addr) (sk sc:Nat) (sm:Bool) (sB:Option Addr) (sj sd:Nat),x+t=n/\xv=.int .i64 x/\Blk wr gs 73 #[.bool sn,.slice sA sk sc,.bool sm,.slice sB sj sd]/\Hid (Fr wr sn sA sk sc sm sB sj sd (imT (Zh (qM rs)) n aL bL i x))/\Kept (λg=>g=gs) W4 wr)
         case atStart=>exact⟨0,_,_,_,_,_,_,_,_,by omega,rfl,O.out,c4,a8.out⟩
         case round =>
          clear O c4 a8;obtain⟨wb,rfl⟩:=Gy wr;obtain⟨x,sn,sA,sk,sc,sm,sB,sj,sd,x9,rfl,O,c4,a8⟩:=hrel;cases gk with
          | zero =>
           obtain rfl:n=x:=Gk;have t7:decide ((n:Int)<(n:Int))=false:=Gh;have o6:Hid (Fr wb sn sA sk sc sm sB sj sd (imT (Zh (qM rs)) n aL bL (i+1) 0)):=Za (by rw[Zmi];exact c4.out);replace O:=Za O;replace a8:=Za a8;go_wp2_with fail
           go_roundg (n-(i+1))
           case measure=>omega
           case rel=>exact⟨i+1,_,_,_,_,_,_,_,_,by omega,by go_num,O.out,o6,a8.out⟩
          | succ t7' =>
           obtain rfl:t7'=n-(x+1):=Gk;have m1:x<n:=Gk;have t7:decide ((x:Int)<(n:Int))=true:=Gv Gk;have bxn:(x:Int)<(n:Int):=Gk;have l8:wi.heap.size<=gs:=by have:=b0.out.size;have:=J.size;have h9:=b6.out;(have:=i3.out;omega)
           have I:Hid (Below wi.heap.size wi wb):=Za ((Gs J b0.out).trans (a8.to_below (λk e=>by omega) (by have:=(Gs J b0.out).size;exact this)));have l0:=y.out.atCS j7;have l1:=b2.out.atCS m1;obtain⟨av,g8⟩:∃ v:Int,aL[i]?.getD 0=v:=⟨_,rfl⟩;obtain⟨bv,f9⟩:∃ v:Int,bL[x]?.getD 0=v:=⟨_,rfl⟩;have i5:=y.out.i64C i;have j9:=b2.out.i64C x;rw[g8]at l0 i5;rw[f9]at l1 j9;obtain⟨g1,o1,A',n',c',rfl,k0,hR⟩:=v6.out.at_ j7;have υ5:n=n':=by rw[<- hR.len];exact(e3.out i j7).symm
           subst υ5;have j1:=hR.cap;unfold maxLen at j1;obtain⟨g2,o2,xn,xA,xk,xc,xm,xB,xj,xd,rfl,⟨x0,x1,x2,x3⟩,hX⟩:=hR.at_ m1;have eX:((qM rs)[i]?.getD [])[x]?.getD 0=Zh (qM rs) i x:=rfl;rw[eX]at hX;obtain⟨v9,o5,n4,sm4,i9⟩:=k1.out i x;have ega:gI aL i=av:=g8;have egb:gI bL x=bv:=f9;rw[ega]at o5 sm4 i9;rw[egb]at n4 i9;have o8:=i1.out i x Gk Gk Gk;have y1:=i1.out i (x+1) Gk Gk Gk
           have j2:Hid (imT (Zh (qM rs)) n aL bL i (x+1)=Zuq [imT (Zh (qM rs)) n aL bL i x,Zhk (Zh (qM rs) i x) [((av:Int):Rat),((bv:Int):Rat)] 2] 2):=Za (by
            rw[Zoe,ega,egb];show _=(0+imT (Zh (qM rs)) n aL bL i x)+Zh (qM rs) i x*(av:Rat)*(bv:Rat)
            grind)
           obtain⟨s0,s1,s2,s3,-⟩:=O.four;have z0:=Zb I.out k0;have z1:=Zb I.out x0;have z2:=Zb I.out x1;have z3:=Zb I.out x2;have z4:=Zb I.out x3;have z5:=Zb I.out l0;have z6:=Zb I.out l1;replace hX:=Za hX;replace g8:=Za g8;replace f9:=Za f9;replace ega:=Za ega;replace egb:=Za egb;clear eX hR;go_wp2_with fail;obtain⟨X0,g0⟩:=Gz wb.drew;have c1:Below wb.heap.size wb X0:=by rw[<- g0];exact Zf (Qb _ _) 1
           have a5:Hid (∀ wx,Below wb.heap.size wb wx->wx.cell? ⟨gs,0,none⟩=some (.bool sn)/\wx.cell? ⟨gs,1,none⟩=some (.slice sA sk sc)/\wx.cell? ⟨gs,2,none⟩=some (.bool sm)/\wx.cell? ⟨gs,3,none⟩=some (.slice sB sj sd)/\wx.cell? ⟨g1,o1+i,none⟩=some (.slice (some ⟨g2,o2,none⟩) n c')/\wx.cell? ⟨g2,o2+x*4,none⟩=some (.bool xn)/\wx.cell? ⟨g2,o2+x*4+1,none⟩=some (.slice xA xk xc)/\wx.cell? ⟨g2,o2+x*4+2,none⟩=some (.bool xm)/\wx.cell? ⟨g2,o2+x*4+3,none⟩=some (.slice xB xj xd)/\wx.cell? ⟨gA,p3+i,none⟩=some (.int .i64 av)/\wx.cell? ⟨gB,o9+x,none⟩=some (.int .i64 bv)):=Za (λwx hbx=>⟨Zb hbx s0,Zb hbx s1,Zb hbx s2,Zb hbx s3,Zb hbx z0,Zb hbx z1,Zb hbx z2,Zb hbx z3,Zb hbx z4,Zb hbx z5,Zb hbx z6⟩);refine wp_heldS [23] hmx a5 (by rw[g0];exact c1) (λhxs=>?_);rw[g0];clear z0 z1 z2 z3 z4 z5 z6;refine Zke 8 [0,1,2,3,4,5,6,7] rfl Gi (a5.out _ c1) ?_
           iterate 8 (refine tkA ?_;try simp only[Qa,Zhf,Zgs,Zg9,Gr,Gq,Gp])
           refine tk0 ?_;refine Zgt 1 [8] rfl Gi (a5.out _ c1) ?_
           (refine tkA ?_;try simp only[Qa,Zhf,Zgs,Zg9,Gr,Gq,Gp])
           refine tk0 ?_;refine Zke 8 [9,10,11,12,14,15,16,17] rfl Gi (a5.out _ c1) ?_
           iterate 8 (refine tkA ?_;try simp only[Qa,Zhf,Zgs,Zg9,Gr,Gq,Gp])
           refine tk0 ?_;refine wpAnyL_o 13 λK hK=>?_;go_simp;refine(Zjo av X0 i5.1 i5.2).mono ?_;rintro e w5 ⟨b4,pn,pA,pk,pc,pm,pB,pj,pd,rfl,hp⟩;have j3:=Gs c1 b4;refine hK.out _ _ (λ_=>a5.out _ j3) ?_;clear hK K
           try simp only[Qa,Zhf,Zgs,Zg9]
           refine wpAnyL_o 18 λK hK=>?_;go_simp;refine(Zjo bv w5 j9.1 j9.2).mono ?_;rintro e w6 ⟨k9,qn,qA,qk,qc,qm,qB,qj,qd,rfl,hq⟩;have j0:=Gs j3 k9;refine hK.out _ _ (λ_=>a5.out _ j0) ?_;clear hK K
           try simp only[Qa,Zhf,Zgs,Zg9]
           obtain⟨Y1,T⟩:=Gz (w6.alloc (.cells #[.bool pn,.slice pA pk pc,.bool pm,.slice pB pj pd,.bool qn,.slice qA qk qc,.bool qm,.slice qB qj qd] 73));obtain⟨n8,d6⟩:=Gz w6.heap.size;have e1:Below w6.heap.size w6 Y1:=by rw[<- T];exact(Qb _ _).alloc (Qc _) _
           have m5:Blk Y1 n8 73 #[.bool pn,.slice pA pk pc,.bool pm,.slice pB pj pd,.bool qn,.slice qA qk qc,.bool qm,.slice qB qj qd]:=by rw[<- T,<- d6];exact Qx _ _ _
           have b8:Below wb.heap.size wb Y1:=Gs j0 e1;refine wpAnyL_o 19 λK hK=>?_;go_simp;(try rw[T]);(try rw[d6]);refine hK.out _ _ (λ_=>a5.out _ b8) ?_;clear hK K T d6
           try simp only[Qa,Zhf,Zgs,Zg9]
           refine wpAnyL_o 20 λK hK=>?_;go_simp;refine(Zcf xn xA xk xc xm xB xj xd (Zh (qM rs) i x) (some ⟨n8,0,none⟩) 2 2 [((av:Int):Rat),((bv:Int):Rat)] Y1 (hX.out.below (Gs I.out b8)) (FL.pair2 m5 (hp.below (Gs k9 e1)) (hq.below e1)) Gk (λt ht=>match t,ht with|0,_=>v9|1,_=>sm4) (λt ht=>match t,ht with|0,_=>o5|1,_=>n4)).mono ?_;rintro e w7 ⟨x5,un,uA,uk,uc,um,uB,uj,ud,rfl,hu⟩;have i7:=Gs b8 x5;refine hK.out _ _ (λ_=>a5.out _ i7) ?_;clear hK K
           try simp only[Qa,Zhf,Zgs,Zg9]
           obtain⟨Y2,g9⟩:=Gz (w7.alloc (.cells #[.bool sn,.slice sA sk sc,.bool sm,.slice sB sj sd,.bool un,.slice uA uk uc,.bool um,.slice uB uj ud] 73));obtain⟨l6,d3⟩:=Gz w7.heap.size;have h6:Below w7.heap.size w7 Y2:=by rw[<- g9];exact(Qb _ _).alloc (Qc _) _
           have m8:Blk Y2 l6 73 #[.bool sn,.slice sA sk sc,.bool sm,.slice sB sj sd,.bool un,.slice uA uk uc,.bool um,.slice uB uj ud]:=by rw[<- g9,<- d3];exact Qx _ _ _
           have b9:Below wb.heap.size wb Y2:=Gs i7 h6;refine wpAnyL_o 21 λK hK=>?_;go_simp;(try rw[g9]);(try rw[d3]);refine hK.out _ _ (λ_=>a5.out _ b9) ?_;clear hK K g9 d3
           try simp only[Qa,Zhf,Zgs,Zg9]
           refine wpAnyL_o 22 λK hK=>?_;go_simp;refine(Zmj (some ⟨l6,0,none⟩) 2 2 [imT (Zh (qM rs)) n aL bL i x,Zhk (Zh (qM rs) i x) [((av:Int):Rat),((bv:Int):Rat)] 2] Y2 (FL.pair2 m8 (c4.out.below b9) (hu.below h6)) Gk (λt ht=>match t,ht with|0,_=>Z2s|1,_=>by show Sm (0+imT (Zh (qM rs)) n aL bL i x);rw[Rat.zero_add];exact o8) (λt ht=>match t,ht with|0,_=>o8|1,_=>i9)).mono ?_;rintro e w8 ⟨t0,vn,vA,vk,vc,vm,vB,vj,vd,rfl,hv⟩;have k2:=Gs b9 t0;refine hK.out _ _ (λ_=>a5.out _ k2) ?_;clear hK K
           try simp only[Qa,Zhf,Zgs,Zg9]
           have g5:=Zc k2 O;obtain⟨f0,f1,f2,f3,q8,w3,q4,q7⟩:=g5.four;obtain⟨W7,n6,p7,j6,s7⟩:=Zau vn vA vk vc vm vB vj vd g5;have o0:=Za (hv.keptN j6 g5 (Za6 _ _ _ _ _ _ _ _));have p6:Hid (Kept (λg=>g=gs) W4 W7):=Za ((a8.below k2).trans j6);have p2:Hid (Fr W7 vn vA vk vc vm vB vj vd (imT (Zh (qM rs)) n aL bL i (x+1))):=Za (by rw[j2.out];exact o0.out);replace p7:=Za p7;clear j6 hv hu hp hq o0;refine Zu (i:=23) rfl Gi Gi (λK hK=>?_);go_simp;(try rw[n6]);refine hK.out _ _ ?_;clear hK K
           try simp only[Qa,Zhf,Zgs,Zg9]
           refine wpAnyL_fin ?_;clear n6 f0 f1 f2 f3 q8 w3 q4 q7 g5 a5 hxs g0 s0 s1 s2 s3;go_wp2_with fail
           go_roundg (n-(x+1))
           case measure=>omega
           case rel=>exact⟨x+1,_,_,_,_,_,_,_,_,by omega,by go_num,p7.out,p2,p6.out⟩
theorem Zj5(x y:Int)(w:World)(hx1:-9223372036854775808<=x)(hx2:x<=9223372036854775807)(h0:0<y)(hy:y<=9223372036854775807) :
    Calls Tryz.prog 18 #[.int .i64 x,.int .i64 y] w (Zdl w (QA x y)):=by
 obtain⟨W0,U,C,q0,s0⟩:=Zam w 41 #[.bool false,.slice none 0 0,.bool false,.slice none 0 0];obtain⟨gR,f⟩:=Gz w.heap.size;rw[f]at q0;go_in;go_wp2_with fail;(try rw[U]);(try rw[f]);rw[f]at C s0;refine(rOf_pos x y W0 hx1 hx2 h0 hy).mono ?_;rintro e w1 ⟨J,pn,pA,pk,pc,pm,pB,pj,pd,rfl,hf⟩;obtain⟨g1,u⟩:=Gz w1.heap.size;obtain⟨V1,O,qv,I⟩:=Zan (w:=w1) 41 #[.bool pn,.slice pA pk pc,.bool pm,.slice pB pj pd];rw[u]at qv;have h:=Gs J I;have q1:=Zc h q0;have T:=Za (hf.below I);obtain⟨v0,v1,v2,v3,-⟩:=qv.four;obtain⟨c0,c1,c2,c3,z0,z1,z2,z3⟩:=q1.four;clear hf;replace f:=Za f;go_wp2_with fail;(try rw[u]);(try rw[O]);obtain⟨W5,V,q5,o,s5⟩:=Zsp pn pA pk pc pm pB pj pd q1;go_wp2_with fail;(try rw[V]);obtain⟨r0,r1,r2,r3,-⟩:=q5.four;refine bodyPost_ret (v:=.agg #[.bool pn,.slice pA pk pc,.bool pm,.slice pB pj pd]) (by simp[results,Tryz.results18,go_sem,r0,r1,r2,r3]) rfl ?_;refine⟨?_,_,_,_,_,_,_,_,_,rfl,T.out.keptV o q1 (Zeu _ _ _ _ _ _ _ _)⟩;rw[f.out];exact C.trans ((h.mono Gk).trans (o.to_below (λk e=>by omega) (by have:=h.size;omega)))
theorem Zmq(A:Option Addr)(n c:Nat)(l:List Int)(w:World)(h:LimI w A n c l)(hn9:n<=900) :
    Calls Tryz.prog 36 #[.slice A n c] w λe w'=>∃ v,e=.returned v/\Below w.heap.size w w'/\OwnF 41 w' w.heap.size v (l.map λ(z:Int)=>(z:Rat)):=by
 obtain⟨iF,hi,a5,a7,a9⟩:=info_parts Zd6;have hl:=Za h.1;have a4:=h.2.2.1;unfold maxLen at a4;have b4:=h.2.1;replace h:=Za h;go_in;go_wp2_with fail
 go_loopg [3,4] n (λk ov iv wr=>∃ i:Nat,i+k=n/\iv=.int .i64 i/\Below w.heap.size w wr/\OwnF 41 wr w.heap.size ov ((l.map λ(z:Int)=>(z:Rat)).take i))
 case atStart=>exact⟨0,by omega,rfl,Qb _ _,OwnF.nil _ _ _⟩
 case round =>
  obtain⟨i,b3,rfl,hB,hO⟩:=hrel;cases gk with
  | zero =>
   obtain rfl:i=n:=Gk;have t1:decide ((i:Int)<(i:Int))=false:=Gh;replace hO:=Za hO;go_wp2_with fail;go_ret;refine⟨_,rfl,hB,?_⟩;have h1:=hO.out;rw[Qi (by rw[Qq,hl.out];exact Qc _)]at h1;exact h1
  | succ k' =>
   obtain rfl:k'=n-(i+1):=Gk;have C:i<n:=Gk;have t1:decide ((i:Int)<(n:Int))=true:=Gv Gk;have bi:(i:Int)<(n:Int):=Gk;have hq:=h.out.below hB;have hz:=Zks hq.2.2.2.1 i;obtain⟨g,o,rfl,hc⟩:=hq.2.2.2.2 Gk;have k0:=hc i C;have J:=hz;unfold I64 at J;obtain⟨z,f⟩:=Gz (l[i]?.getD 0);rw[f]at k0 J;replace hO:=Za hO;clear hc hq;go_wp2_with fail;refine(Zj5 z 1 wr Gk Gk Gj Gj).mono ?_;rintro e w3 ⟨a2,na,B1,m1,d1,nb,B2,m2,d2,rfl,hf⟩;rw[Zk8]at hf;have hs:=hB.size;have u:((l.map λ(z:Int)=>(z:Rat)).take i).length+1<=1000:=by rw[Qo,Qq];omega
   have b1:Hid ((l.map λ(z:Int)=>(z:Rat)).take i ++ [(z:Rat)]=(l.map λ(z:Int)=>(z:Rat)).take (i+1)):=Za (by
    rw[List.take_add_one,Qy,Qe (l:=l) (i:=i) (by rw[hl.out];exact C)];rw[Qe (l:=l) (i:=i) (by rw[hl.out];exact C)]at f;simp only[Option.getD_some]at f;rw[f];rfl)
   obtain⟨gy,O⟩:=Gz w3.heap.size;obtain⟨Y1,y⟩:=Gz (w3.alloc (.cells #[.bool na,.slice B1 m1 d1,.bool nb,.slice B2 m2 d2] 41));have a0:Below w3.heap.size w3 Y1:=by rw[<- y];exact(Qb _ _).alloc (Qc _) _
   have a3:Blk Y1 gy 41 #[.bool na,.slice B1 m1 d1,.bool nb,.slice B2 m2 d2]:=by rw[<- y,<- O];exact Qx _ _ _
   have a6:Fr Y1 na B1 m1 d1 nb B2 m2 d2 (z:Rat):=hf.below a0;have a1:=Gs a2 a0;have U:=hO.out.kept a1;have V:=hB.trans (a1.mono hs);have T:=V.size;replace u:=Za u;clear hf f hz J;go_wp2_with ((try rw[y]);(try rw[O]);at_builtin;refine Zcu _ rfl (.tmp 11) (.tmp 17) 35 rfl w.heap.size 41 iF Tryz.underlying35 hi a5 a7 a9 _ _ rfl U _ (some ⟨gy,0,none⟩) 1 1 [⟨na,B1,m1,d1,nb,B2,m2,d2,(z:Rat)⟩] rfl (Zb9 _ a3) rfl (by intro e he;rw[Qw]at he;subst he;exact a6) u.out T ?_;intro v2 w5 I b0 b2);have a8:=V.grown b0 T (λk hk=>U.row_ge k hk);simp only[Qf,Qg]at I;rw[b1.out]at I
   go_roundg (n-(i+1))
   case measure=>omega
   case rel=>exact⟨i+1,by omega,by go_num,a8,I⟩
def Zg6(sg:Int)(m s:Rat)(z:Int):Bool:=if 0<sg then decide ((z:Rat)-m<=0) || decide (((z:Rat)-m)*((z:Rat)-m)<=s)else decide ((z:Rat)-m<=0) && decide (s<=((z:Rat)-m)*((z:Rat)-m))
theorem Zm8{q:Rat}:Zdb q.num 0<=0 ↔ q<=0:=by
 have h:(0:Rat)<q ↔ 0<q.num:=⟨λh=>by
  have h1:q.num≠0:=λe=>by rw[Rat.num_eq_zero.1 e]at h;exact absurd h Gj
  have h2:=Rat.num_nonneg.2 (Rat.le_of_lt h);omega,λh=>by
  have h1:0<=q:=Rat.num_nonneg.1 Gk;refine Rat.lt_of_le_of_ne h1 (λe=>?_);rw[<- e]at h;exact absurd h Gj⟩
 unfold Zdb;rw[<- Rat.not_lt,h]
 split
 ·constructor <;> intro _ <;> omega
 split
 ·constructor <;> intro h1 <;> omega
 constructor <;> intro _ <;> omega
theorem Zwn{q:Rat}:0<=Zdb q.num 0 ↔ 0<=q:=by
 rw[<- Rat.num_nonneg];unfold Zdb
 split
 ·constructor <;> intro h1 <;> omega
 split
 ·constructor <;> intro h1 <;> omega
 constructor <;> intro h1 <;> omega
theorem Fk{G:Prop}(h:G:=by
 constructor
 ·intro h
  have h2:=Rat.add_le_add_right (c:=b) |>.2 h;rw[Rat.zero_add]at h2;have e:a-b+b=a:=by grind
  rw[e]at h2;exact h2
 intro h;have h2:=Rat.add_le_add_right (c:=-b) |>.2 h;have e:b+-b=0:=by grind
 have e2:a+-b=a-b:=by grind
 rw[e,e2]at h2;exact h2):G:=h
theorem Zse{a b:Rat}:a-b<=0 ↔ a<=b:=by
 exact Fk
theorem Zst{a b:Rat}:0<=a-b ↔ b<=a:=by
 exact Fk
theorem Fx{G:Prop}(h:G:=by
 clear aE;go_wp2_with fail;go_ret;exact⟨by rw[dx.out];rfl,io.out⟩):G:=h
theorem EW{G:Prop}(h:G:=by
 go_simp;exact hK.out _ _ ⟨_,rfl,(by simp only[Za4];exact⟨_,rfl,hb.size,Blk.new _ _ _⟩),(Below.refl _ _).alloc (Nat.le_refl _) _,trivial⟩):G:=h
theorem Eh{G:Prop}(h:G:=by
 exact hK.out _ _ ⟨_,rfl,(by simp only[Za4];exact⟨_,_,_,_,_,_,_,_,rfl,ax⟩),ao,trivial⟩):G:=h
theorem CJ{G:Prop}(h:G:=by
 replace dr:=Za dr;replace h2:=Za h2;have dx:Hid (Zg6 sg mq sq z=true):=Za (by rw[aE.out,bM.out,dr.out];rfl);exact Fx):G:=h
theorem CL{G:Prop}(h:G:=by
 replace dr:=Za dr;replace h2:=Za h2;have dx:Hid (Zg6 sg mq sq z=false):=Za (by rw[aE.out,bM.out,dr.out];rfl);exact Fx):G:=h
theorem Zud(wn:Bool)(wA:Option Addr)(wk wc:Nat)(z:Int)(gm gs gp:Nat)(mn:Bool)(mA:Option Addr)(mk mc:Nat)(mm:Bool)(mB:Option Addr)(mj md:Nat)(sn:Bool)(sA:Option Addr)(sk sc:Nat)(sm:Bool)(sB:Option Addr)(sj sd:Nat)(sg:Int)(mq sq:Rat)(w:World)(hz:Wd w wn wA wk wc z)(hm:Blk w gm 73 #[.bool mn,.slice mA mk mc,.bool mm,.slice mB mj md])(a9:Fr w mn mA mk mc mm mB mj md mq)(hs:Blk w gs 73 #[.bool sn,.slice sA sk sc,.bool sm,.slice sB sj sd])(a6:Fr w sn sA sk sc sm sB sj sd sq)(hp:Blk w gp 3 #[.int .i64 sg])
    (k1:Sm (z:Rat)) (k2:Sm mq) (k3:Sm ((z:Rat)-mq)) (k4:Sm (((z:Rat)-mq)*((z:Rat)-mq))) (k5:Sm sq) :
    Calls Tryz.prog 117 #[.agg #[.bool wn,.slice wA wk wc],.pointer (some ⟨gm,0,none⟩),.pointer (some ⟨gs,0,none⟩),.pointer (some ⟨gp,0,none⟩)] w λe w'=>e=.returned (.bool (Zg6 sg mq sq z))/\Below w.heap.size w w':=by
 obtain⟨iN,hi,n3,o7,o2⟩:=info_parts Zl8;have hmx:=Gt;obtain⟨d,hd⟩:=Gz ((z:Rat)-mq);have h9:Hid (Zg6 sg mq sq z=if 0<sg then decide (d<=0) || decide (d*d<=sq)else decide (d<=0) && decide (sq<=d*d)):=Za (by rw[<- hd];rfl);rw[hd]at k3 k4;replace hd:=Za hd;replace k1:=Za k1;replace k2:=Za k2;replace k3:=Za k3;replace k4:=Za k4;replace k5:=Za k5;obtain⟨V0,j3,q4,b2⟩:=Zan (w:=w) 39 #[.bool wn,.slice wA wk wc];obtain⟨g4,g9⟩:=Gz w.heap.size;rw[g9]at q4;replace hz:=Za (hz.below b2);replace hm:=Za (Zc b2 hm);replace a9:=Za (a9.below b2);replace hs:=Za (Zc b2 hs);replace a6:=Za (a6.below b2);replace hp:=Za (Zc b2 hp);replace b2:=Za b2;replace q4:=Za q4;go_in;go_wp2_with fail;(try rw[j3]);(try rw[g9]);clear j3;replace g9:=Za g9;have h0:V0.cell? ⟨g4,0,none⟩=some (.bool wn):=q4.out.cell 0;have g2:V0.cell? ⟨g4,1,none⟩=some (.slice wA wk wc):=q4.out.cell 1;have b3:Hid (∀ wx,Below V0.heap.size V0 wx->(wx.cell? ⟨g4,0,none⟩=some (.bool wn))/\(wx.cell? ⟨g4,1,none⟩=some (.slice wA wk wc))):=Za (λwx o=>⟨Zb o h0,Zb o g2⟩);have a0:Below V0.heap.size V0 V0.drew:=Zf (Qb _ _) 1;refine wp_heldS [] hmx b3 a0 (λhxs1=>?_);refine Zke 1 [0] rfl Gi (b3.out _ a0) ?_
 (refine tkA ?_;try simp only[Qa,Zhf,Zgs,Zg9,Gr,Gq,Gp])
 refine tk0 ?_;refine Za8 [(1,12),(2,13),(3,10),(4,14),(6,6)] (λi=>match i with|3=>[5]|_=>[]) [(1,12),(2,13),(3,10),(5,15),(4,14),(6,6)] (Za4 [(1,nmT 1),(2,frP (z:Rat)),(3,frP (z:Rat)),(5,isV (.int .i64 0)),(4,frV (z:Rat)),(6,newV V0.heap.size 41 #[.bool false,.slice none 0 0,.bool false,.slice none 0 0])]) 2 Gi (λp _=>Zfj (Zad Zze (Zad Zph (Zad Zph (Zad Zyz (Zad Zc5 (Zad Zfb Zgm)))))) p.1) (λwx h=>b3.out _ (Gs a0 h)) ?hop1 ?hfin1
 case hop1 =>
  intro p hp;simp only[Qu,Qp,or_false]at hp;simp only[Qf,Qg,Zap,Qa,Zhf,Zgs,Zg9];rcases hp with rfl|rfl|rfl|rfl|rfl
  ·intro ν wx hb hP
   have o:=Gs a0 hb;refine Zm (i:=1) rfl (λK hK=>?_);go_simp;refine(Zb2 1 wx Gj Gj).mono ?_;rintro e w5 ⟨ao,n5,A5,n1,c5,rfl,ax⟩;obtain rfl:n5=false:=by rw[ax.1];decide
   exact hK.out _ _ ⟨_,rfl,(by simp only[Za4];exact⟨_,_,_,rfl,ax⟩),ao,trivial⟩
  ·intro ν wx hb hP
   have o:=Gs a0 hb;have h1:=hP (1,12) Gh Gi;simp only[Za4]at h1;obtain⟨l9,k7,m1,hν1,l2⟩:=h1;rw[hν1];refine Zm (i:=2) rfl (λK hK=>?_);go_simp;refine(Zgo wn wA l9 wk wc k7 m1 z 1 wx (hz.out.below o) l2 Gj).mono ?_;rintro e w5 ⟨ao,fn,fA,fk,fc,fm,fB,fj,fd,rfl,ax⟩;rw[Zui]at ax;exact Eh
  ·intro ν wx hb hP
   have o:=Gs a0 hb;have h2:=hP (2,13) Gh Gi;simp only[Za4]at h2;obtain⟨j0,j6,j2,j8,k0,j5,i7,j1,hν2,i4⟩:=h2;rw[hν2];refine Zm (i:=3) rfl (λK hK=>?_);go_simp;refine hK.out _ _ ⟨_,rfl,(by simp only[Za4];exact⟨_,_,_,_,_,_,_,_,rfl,i4⟩),Qb _ _,?_⟩;exact⟨_,.int .i64 0,rfl,Or.inl ⟨by kernel_rfl,λW2 _=>by go_simp⟩,by simp[Za4,isV],trivial⟩
  ·intro ν wx hb hP
   have o:=Gs a0 hb;have h3:=hP (3,10) Gh Gi;simp only[Za4]at h3;obtain⟨n8,o0,n2,m7,n7,o9,m9,o3,hν3,m3⟩:=h3;rw[hν3];refine Zm (i:=4) rfl (λK hK=>?_);go_simp;exact hK.out _ _ ⟨_,rfl,(by simp only[Za4];exact⟨_,_,_,_,_,_,_,_,rfl,m3⟩),Qb _ _,trivial⟩
  intro ν wx hb hP;have o:=Gs a0 hb;refine Zm (i:=6) rfl (λK hK=>?_);exact EW
 case hfin1 =>
  intro ν wx hb hP;have h1:=hP (1,12) Gh;simp only[Za4]at h1;obtain⟨m6,n9,n0,hν1,-⟩:=h1;have h2:=hP (2,13) Gh;simp only[Za4]at h2;obtain⟨l0,m0,l8,l6,l7,l3,m4,m5,hν2,-⟩:=h2;have h3:=hP (3,10) Gh;simp only[Za4]at h3;obtain⟨m8,n6,o6,o5,o4,n4,o1,p0,hν3,-⟩:=h3;have h5:=hP (5,15) Gh;simp only[Za4]at h5;have hν5:ν 15=_:=h5;clear h5;have h4:=hP (4,14) Gh;simp only[Za4]at h4;obtain⟨h7,h8,f6,g8,f4,f8,g6,g7,hν4,k6⟩:=h4;have h6:=hP (6,6) Gh;simp only[Za4]at h6;obtain⟨b6,hν6,i9,i3⟩:=h6;simp only[Qf,Qg,Zap,Qa,Zhf,Zgs,Zg9];rw[hν1,hν2,hν3,hν5,hν4,hν6];clear hν1 hν2 hν3 hν5 hν4 hν6 hP ν;have o:=Gs a0 hb;have a5:=i3.four;have d3:V0.heap.size<=b6:=i9;refine(Z7 h7 h8 f6 g8 f4 f8 g6 g7 o d3 i3).elim (λZ1 hq=>?_);have c0:=a5.1;have i6:=a5.2.1;have i1:=a5.2.2.1;have c3:=a5.2.2.2.1;have f0:=a5.2.2.2.2.1;have f1:=a5.2.2.2.2.2.1;have f2:=a5.2.2.2.2.2.2.1;have f3:=a5.2.2.2.2.2.2.2;have hZ:=hq.1;refine wpAnyL_o 7 λK hK=>?_;go_simp;(try rw[hZ]);refine hK.out _ _ (λ_=>b3.out _ hq.2.1) ?_;clear hK K
  try simp only[Qa,Zhf,Zgs,Zg9,Gr,Gq,Gp]
  refine Zgt 1 [8] rfl Gi (b3.out _ hq.2.1) ?_
  (refine tkA ?_;try simp only[Qa,Zhf,Zgs,Zg9,Gr,Gq,Gp])
  refine tk0 ?_;refine wpAnyL_fin ?_;have a7:=hq.2.1;have b5:=hq.2.2.1;have d9:=Fr.keep k6 hq.2.2.2.1;have m2:=Za d3;clear hq hZ c0 i6 i1 c3 f0 f1 f2 f3 a5 i3 i9 d3 o hb a0 b3 hxs1 k6;replace hz:=Za (hz.out.below a7);replace hm:=Gm a7 hm;replace a9:=Za (a9.out.below a7);replace hs:=Gm a7 hs;replace a6:=Za (a6.out.below a7);replace hp:=Gm a7 hp;replace q4:=Gm a7 q4;have i2:=Gn b2 a7;clear b2;replace h0:=Zb a7 h0;replace g2:=Zb a7 g2;clear a7 h0 g2;replace b5:=Za b5;replace d9:=Za d9;go_wp2_with fail;have g1:Z1.cell? ⟨b6,0,none⟩=some (.bool h7):=b5.out.cell 0;have g0:Z1.cell? ⟨b6,1,none⟩=some (.slice h8 f6 g8):=b5.out.cell 1;have g5:Z1.cell? ⟨b6,2,none⟩=some (.bool f4):=b5.out.cell 2;have f9:Z1.cell? ⟨b6,3,none⟩=some (.slice f8 g6 g7):=b5.out.cell 3;have f5:Z1.cell? ⟨gm,0,none⟩=some (.bool mn):=hm.out.cell 0;have d7:Z1.cell? ⟨gm,1,none⟩=some (.slice mA mk mc):=hm.out.cell 1;have d5:Z1.cell? ⟨gm,2,none⟩=some (.bool mm):=hm.out.cell 2;have d8:Z1.cell? ⟨gm,3,none⟩=some (.slice mB mj md):=hm.out.cell 3
  have b9:Hid (∀ wx,Below Z1.heap.size Z1 wx->(wx.cell? ⟨b6,0,none⟩=some (.bool h7))/\(wx.cell? ⟨b6,1,none⟩=some (.slice h8 f6 g8))/\(wx.cell? ⟨b6,2,none⟩=some (.bool f4))/\(wx.cell? ⟨b6,3,none⟩=some (.slice f8 g6 g7))/\(wx.cell? ⟨gm,0,none⟩=some (.bool mn))/\(wx.cell? ⟨gm,1,none⟩=some (.slice mA mk mc))/\(wx.cell? ⟨gm,2,none⟩=some (.bool mm))/\(wx.cell? ⟨gm,3,none⟩=some (.slice mB mj md))):=Za (λwx o=>⟨Zb o g1,Zb o g0,Zb o g5,Zb o f9,Zb o f5,Zb o d7,Zb o d5,Zb o d8⟩);have a4:Below Z1.heap.size Z1 Z1.drew:=Zf (Qb _ _) 1;refine wp_heldS [] hmx b9 a4 (λhxs2=>?_);refine Zke 3 [0,1,3] rfl Gi (b9.out _ a4) ?_
  iterate 3 (refine tkA ?_;try simp only[Qa,Zhf,Zgs,Zg9,Gr,Gq,Gp])
  refine tk0 ?_;refine Za8 [(2,18),(4,20),(5,8)] (λ_=>[]) [(2,18),(4,20),(5,8)] (Za4 [(2,frV (z:Rat)),(4,frV d),(5,newV Z1.heap.size 73 #[.bool false,.slice none 0 0,.bool false,.slice none 0 0])]) 1 Gi (λp _=>Zfj (Zad Zc5 (Zad Zc5 (Zad Zfb Zgm))) p.1) (λwx h=>b9.out _ (Gs a4 h)) ?hop2 ?hfin2
  case hop2 =>
   intro p hp;simp only[Qu,Qp,or_false]at hp;simp only[Qf,Qg,Zap,Qa,Zhf,Zgs,Zg9];rcases hp with rfl|rfl|rfl
   ·intro ν wx hb hP
    have o:=Gs a4 hb;refine Zm (i:=2) rfl (λK hK=>?_);go_simp;refine(Zga h7 f4 h8 f8 f6 g8 g6 g7 _ wx (d9.out.below o)).mono ?_;rintro e w5 ⟨ao,fn,fA,fk,fc,fm,fB,fj,fd,rfl,ax⟩;exact Eh
   ·intro ν wx hb hP
    have o:=Gs a4 hb;have h2:=hP (2,18) Gh Gi;simp only[Za4]at h2;obtain⟨j0,j6,j2,j8,k0,j5,i7,j1,hν2,i4⟩:=h2;rw[hν2];refine Zm (i:=4) rfl (λK hK=>?_);go_simp;refine(Ze4 j0 k0 mn mm j6 j5 mA mB j2 j8 i7 j1 mk mc mj md _ _ wx i4 (a9.out.below o) k1.out k2.out).mono ?_;rintro e w5 ⟨ao,fn,fA,fk,fc,fm,fB,fj,fd,rfl,ax⟩;rw[hd.out]at ax;exact Eh
   intro ν wx hb hP;have o:=Gs a4 hb;refine Zm (i:=5) rfl (λK hK=>?_);exact EW
  case hfin2 =>
   intro ν wx hb hP;have h2:=hP (2,18) Gh;simp only[Za4]at h2;obtain⟨l0,m0,l8,l6,l7,l3,m4,m5,hν2,-⟩:=h2;have h4:=hP (4,20) Gh;simp only[Za4]at h4;obtain⟨c4,c7,c9,c2,d0,c6,c1,c8,hν4,i8⟩:=h4;have h5:=hP (5,8) Gh;simp only[Za4]at h5;obtain⟨b4,hν5,j7,i5⟩:=h5;simp only[Qf,Qg,Zap,Qa,Zhf,Zgs,Zg9];rw[hν2,hν4,hν5];clear hν2 hν4 hν5 hP ν;have o:=Gs a4 hb;have a5:=i5.four;have d3:Z1.heap.size<=b4:=j7;refine(Z7 c4 c7 c9 c2 d0 c6 c1 c8 o d3 i5).elim (λZ2 hq=>?_);have c0:=a5.1;have i6:=a5.2.1;have i1:=a5.2.2.1;have c3:=a5.2.2.2.1;have f0:=a5.2.2.2.2.1;have f1:=a5.2.2.2.2.2.1;have f2:=a5.2.2.2.2.2.2.1;have f3:=a5.2.2.2.2.2.2.2;have hZ:=hq.1;refine wpAnyL_o 6 λK hK=>?_;go_simp;(try rw[hZ]);refine hK.out _ _ (λ_=>b9.out _ hq.2.1) ?_;clear hK K
   try simp only[Qa,Zhf,Zgs,Zg9,Gr,Gq,Gp]
   refine wpAnyL_fin ?_;have f:=hq.2.1;have a8:=hq.2.2.1;have b0:=Fr.keep i8 hq.2.2.2.1;have l5:=Za d3;clear hq hZ c0 i6 i1 c3 f0 f1 f2 f3 a5 i5 j7 d3 o hb a4 b9 hxs2 i8;replace hz:=Za (hz.out.below f);replace hm:=Gm f hm;replace a9:=Za (a9.out.below f);replace hs:=Gm f hs;replace a6:=Za (a6.out.below f);replace hp:=Gm f hp;replace q4:=Gm f q4;replace b5:=Gm f b5;replace d9:=Za (d9.out.below f);have e8:=Gn i2 f;clear i2;replace g1:=Zb f g1;replace g0:=Zb f g0;replace g5:=Zb f g5;replace f9:=Zb f f9;replace f5:=Zb f f5;replace d7:=Zb f d7;replace d5:=Zb f d5;replace d8:=Zb f d8;clear f g1 g0 g5 f9 f5 d7 d5 d8;replace a8:=Za a8;replace b0:=Za b0;clear d9 b5 hz k1 k2;go_wp2_with fail;have u:Z2.cell? ⟨b4,0,none⟩=some (.bool c4):=a8.out.cell 0;have y:Z2.cell? ⟨b4,1,none⟩=some (.slice c7 c9 c2):=a8.out.cell 1;have Y:Z2.cell? ⟨b4,2,none⟩=some (.bool d0):=a8.out.cell 2;have O:Z2.cell? ⟨b4,3,none⟩=some (.slice c6 c1 c8):=a8.out.cell 3;have U:Z2.cell? ⟨gs,0,none⟩=some (.bool sn):=hs.out.cell 0;have J:Z2.cell? ⟨gs,1,none⟩=some (.slice sA sk sc):=hs.out.cell 1;have I:Z2.cell? ⟨gs,2,none⟩=some (.bool sm):=hs.out.cell 2;have T:Z2.cell? ⟨gs,3,none⟩=some (.slice sB sj sd):=hs.out.cell 3
   have C:Below Z2.heap.size Z2 Z2.drew:=Zf (Qb _ _) 1;replace hm:=Gm C hm;replace a9:=Za (a9.out.below C);replace hs:=Gm C hs;replace a6:=Za (a6.out.below C);replace hp:=Gm C hp;replace q4:=Gm C q4;replace a8:=Gm C a8;replace b0:=Za (b0.out.below C);have e7:=Gn e8 C;clear e8;replace u:=Zb C u;replace y:=Zb C y;replace Y:=Zb C Y;replace O:=Zb C O;replace U:=Zb C U;replace J:=Zb C J;replace I:=Zb C I;replace T:=Zb C T;clear C;refine Zz [] (λwx=>(wx.cell? ⟨b4,0,none⟩=some (.bool c4))/\(wx.cell? ⟨b4,1,none⟩=some (.slice c7 c9 c2))/\(wx.cell? ⟨b4,2,none⟩=some (.bool d0))/\(wx.cell? ⟨b4,3,none⟩=some (.slice c6 c1 c8))/\(wx.cell? ⟨gs,0,none⟩=some (.bool sn))/\(wx.cell? ⟨gs,1,none⟩=some (.slice sA sk sc))/\(wx.cell? ⟨gs,2,none⟩=some (.bool sm))/\(wx.cell? ⟨gs,3,none⟩=some (.slice sB sj sd))) hmx ⟨u,y,Y,O,U,J,I,T⟩ (λ_=>?_);refine Zke 3 [0,1,4] rfl Gi ⟨u,y,Y,O,U,J,I,T⟩ ?_
   iterate 3 (refine tkA ?_;try simp only[Qa,Zhf,Zgs,Zg9,Gr,Gq,Gp])
   refine tk0 ?_;obtain⟨k9,d6⟩:=Gz Z2.drew.heap.size;obtain⟨l1,i0,b1,V⟩:=Zan (w:=Z2.drew) 73 #[.bool c4,.slice c7 c9 c2,.bool d0,.slice c6 c1 c8];rw[d6]at b1;refine wpAnyL_o 2 λK hK=>?_;go_simp;(try rw[d6]);(try rw[i0]);clear i0;replace hm:=Gm V hm;replace a9:=Za (a9.out.below V);replace hs:=Gm V hs;replace a6:=Za (a6.out.below V);replace hp:=Gm V hp;replace q4:=Gm V q4;replace a8:=Gm V a8;replace b0:=Za (b0.out.below V);have e9:=Gn e7 V;clear e7;replace u:=Zb V u;replace y:=Zb V y;replace Y:=Zb V Y;replace O:=Zb V O;replace U:=Zb V U;replace J:=Zb V J;replace I:=Zb V I;replace T:=Zb V T;clear V;replace b1:=Za b1;replace d6:=Za d6;refine hK.out _ _ (λ_=>⟨u,y,Y,O,U,J,I,T⟩) ?_;clear hK K
   try simp only[Qa,Zhf,Zgs,Zg9,Gr,Gq,Gp]
   have b7:=Za (FL.sing1 b1.out b0.out);refine wpAnyL_o 3 λK hK=>?_;go_simp;refine(Zcf c4 c7 c9 c2 d0 c6 c1 c8 _ (some ⟨k9,0,none⟩) 1 1 [d] l1 b0.out b7.out Gj (Zeq k3.out) (Zfq k3.out)).mono ?_;rintro e l4 ⟨a3,pn,pA,pk,pc,pm,pB,pj,pd,rfl,pf⟩;replace hm:=Gm a3 hm;replace a9:=Za (a9.out.below a3);replace hs:=Gm a3 hs;replace a6:=Za (a6.out.below a3);replace hp:=Gm a3 hp;replace q4:=Gm a3 q4;replace a8:=Gm a3 a8;replace b0:=Za (b0.out.below a3);replace b1:=Gm a3 b1;replace b7:=Za (b7.out.below a3);have e4:=Gn e9 a3;clear e9;replace u:=Zb a3 u;replace y:=Zb a3 y;replace Y:=Zb a3 Y;replace O:=Zb a3 O;replace U:=Zb a3 U;replace J:=Zb a3 J;replace I:=Zb a3 I;replace T:=Zb a3 T;clear a3;rw[Zia]at pf;replace pf:=Za pf;refine hK.out _ _ (λ_=>⟨u,y,Y,O,U,J,I,T⟩) ?_;clear hK K
   try simp only[Qa,Zhf,Zgs,Zg9,Gr,Gq,Gp]
   refine wpAnyL_o 5 λK hK=>?_;go_simp;refine(Ze4 pn pm sn sm pA pB sA sB pk pc pj pd sk sc sj sd _ _ l4 pf.out a6.out k4.out k5.out).mono ?_;rintro e k8 ⟨a2,rn,rA,rk,rc,rm,rB,rj,rd,rfl,rf⟩;replace hm:=Gm a2 hm;replace a9:=Za (a9.out.below a2);replace hs:=Gm a2 hs;replace a6:=Za (a6.out.below a2);replace hp:=Gm a2 hp;replace q4:=Gm a2 q4;replace a8:=Gm a2 a8;replace b0:=Za (b0.out.below a2);replace b1:=Gm a2 b1;replace b7:=Za (b7.out.below a2);replace pf:=Za (pf.out.below a2);have e5:=Gn e4 a2;clear e4;replace u:=Zb a2 u;replace y:=Zb a2 y;replace Y:=Zb a2 Y;replace O:=Zb a2 O;replace U:=Zb a2 U;replace J:=Zb a2 J;replace I:=Zb a2 I;replace T:=Zb a2 T;clear a2;replace rf:=Za rf;refine hK.out _ _ (λ_=>⟨u,y,Y,O,U,J,I,T⟩) ?_;clear hK K
   try simp only[Qa,Zhf,Zgs,Zg9,Gr,Gq,Gp]
   refine wpAnyL_o 6 λK hK=>?_;go_simp;refine(Zid rn rA rk rc rm rB rj rd _ k8 rf.out).mono ?_;rintro e o8 ⟨rfl,a1⟩;replace hm:=Gm a1 hm;replace a9:=Za (a9.out.below a1);replace hs:=Gm a1 hs;replace a6:=Za (a6.out.below a1);replace hp:=Gm a1 hp;replace q4:=Gm a1 q4;replace a8:=Gm a1 a8;replace b0:=Za (b0.out.below a1);replace b1:=Gm a1 b1;replace b7:=Za (b7.out.below a1);replace pf:=Za (pf.out.below a1);replace rf:=Za (rf.out.below a1);have d4:=Gn e5 a1;clear e5;replace u:=Zb a1 u;replace y:=Zb a1 y;replace Y:=Zb a1 Y;replace O:=Zb a1 O;replace U:=Zb a1 U;replace J:=Zb a1 J;replace I:=Zb a1 I;replace T:=Zb a1 T;clear a1;refine hK.out _ _ (λ_=>⟨u,y,Y,O,U,J,I,T⟩) ?_;clear hK K
   try simp only[Qa,Zhf,Zgs,Zg9,Gr,Gq,Gp]
   obtain⟨r2,a4⟩:=Gz (Zdb (d*d-sq).num 0);rw[a4];replace a4:=Za a4;refine Zke 1 [7] rfl Gi ⟨u,y,Y,O,U,J,I,T⟩ ?_
   (refine tkA ?_;try simp only[Qa,Zhf,Zgs,Zg9,Gr,Gq,Gp])
   refine tk0 ?_;refine wpAnyL_fin ?_;clear u y Y O U J I T b7 pf rf hs a6 b1 k3 k4 k5;have lp:=hp.out.cell 0;simp at lp;have j4:Hid (r2<=0 ↔ d*d<=sq):=Za (by rw[<- a4.out,Zm8,Zse]);have j9:Hid (0<=r2 ↔ sq<=d*d):=Za (by rw[<- a4.out,Zwn,Zst]);obtain⟨r1,a0⟩:=Gz (Zdb d.num 0);have f7:Hid (r1<=0 ↔ d<=0):=Za (by rw[<- a0,Zm8]);replace a0:=Za a0;have aE:=h9.out;clear h9;obtain⟨e0,e1,e2,e3,-⟩:=a8.out.four;by_cases b8:0<sg
   case pos =>
    have t0:decide (0<sg)=true:=Gv b8;rw[Gx b8]at aE;replace aE:=Za aE;replace b8:=Za b8;go_wp2_with fail;refine(Zid c4 c7 c9 c2 d0 c6 c1 c8 _ _ b0.out).mono ?_;rintro e w9 ⟨rfl,e6⟩;rw[a0.out];have io:=Gn d4 e6;clear e6 e0 e1 e2 e3;by_cases h1:r1<=0
    ·have t1:decide (r1<=0)=true:=Gv h1
     have bM:decide (d<=0)=true:=Gv (f7.out.1 h1);replace bM:=Za bM;replace h1:=Za h1;have dx:Hid (Zg6 sg mq sq z=true):=Za (by rw[aE.out,bM.out];rfl);exact Fx
    have t1:decide (r1<=0)=false:=Gu h1;have bM:decide (d<=0)=false:=Gu (λh=>h1 (f7.out.2 h));replace bM:=Za bM;replace h1:=Za h1;by_cases h2:r2<=0
    ·have t2:decide (r2<=0)=true:=Gv h2
     have dr:=Gv (j4.out.1 h2);exact CJ
    have t2:decide (r2<=0)=false:=Gu h2;have dr:=Gu (λh=>h2 (j4.out.2 h));exact CL
   case neg =>
    have t0:decide (0<sg)=false:=Gu b8;rw[Gw b8]at aE;replace aE:=Za aE;replace b8:=Za b8;go_wp2_with fail;refine(Zid c4 c7 c9 c2 d0 c6 c1 c8 _ _ b0.out).mono ?_;rintro e w9 ⟨rfl,e6⟩;rw[a0.out];have io:=Gn d4 e6;clear e6 e0 e1 e2 e3;by_cases h1:r1<=0
    ·have t1:decide (r1<=0)=true:=Gv h1
     have bM:decide (d<=0)=true:=Gv (f7.out.1 h1);replace bM:=Za bM;replace h1:=Za h1;by_cases h2:0<=r2
     ·have t2:decide (0<=r2)=true:=Gv h2
      have dr:=Gv (j9.out.1 h2);exact CJ
     have t2:decide (0<=r2)=false:=Gu h2;have dr:=Gu (λh=>h2 (j9.out.2 h));exact CL
    have t1:decide (r1<=0)=false:=Gu h1;have bM:decide (d<=0)=false:=Gu (λh=>h1 (f7.out.2 h));replace bM:=Za bM;replace h1:=Za h1;have dx:Hid (Zg6 sg mq sq z=false):=Za (by rw[aE.out,bM.out];rfl);exact Fx
def IsRoot(s r:Nat):Prop:=r*r<=s/\s<(r+1)*(r+1)
theorem IsRoot.unique{s r t:Nat}(h:IsRoot s r)(k:IsRoot s t):r=t:=by
 obtain⟨h1,h2⟩:=h;obtain⟨k1,k2⟩:=k;rcases Nat.lt_trichotomy r t with h3|h3|h3
 ·have:(r+1)*(r+1)<=t*t:=Nat.mul_le_mul h3 h3
  omega
 exact h3;have:(t+1)*(t+1)<=r*r:=Nat.mul_le_mul h3 h3;omega
noncomputable def rootN (z:Nat):Nat:=@dite Nat (∃ r,IsRoot z r) (Classical.propDecidable _) (λh=>Classical.choose h) (λ_=>0)
theorem Zi5{z r:Nat}(h:IsRoot z r):rootN z=r:=by
 unfold rootN;rw[@dif_pos _ (Classical.propDecidable _) ⟨r,h⟩];exact(Classical.choose_spec (⟨r,h⟩:∃ r,IsRoot z r)).unique h
theorem Zt3(A:Option Addr)(n c u:Nat)(w:World)(hz:Wd w false A n c (u:Int)) :
    Calls Tryz.prog 122 #[.agg #[.bool false,.slice A n c],.int .i64 (-1)] w (NumE w ((u/2:Nat):Int)):=by
 have hn:=hz.2.1;obtain⟨W0,a7,O,⟨q1,q2⟩,s0⟩:=Zef w 39 #[.bool false,.slice A n c] 39 #[.bool false,.slice none 0 0];obtain⟨Y1,a2,qz,I⟩:=Zan (w:=W0) 39 #[.bool false,.slice A n c];have C:Hid (okW false (digits u)=true):=by have h:=hz.ok;rw[Qd]at h;exact Za h
 have b4:Hid (u<pw 4096):=by
  have h:=hz.lim.len;have h2:=(Zq (u:Int).natAbs 4096).1;rw[Qd]at h h2;exact Za (h2 Gk)
 have o:=Za (hz.below O)
 have a0:Hid (WL Y1 (some ⟨W0.heap.size,0,none⟩) 1 1 [⟨false,A,n,c,digits u⟩]):=Za (by
  have h:=o.out.lim;rw[Qd]at h;rw[<- a2];exact WL.one h _)
 obtain⟨gz,a4⟩:=Gz W0.heap.size;rw[a4]at a0;obtain⟨b2,b3,-⟩:=q1.two;replace q1:=Za (Zc I q1);replace q2:=Za (Zc I q2);replace o:=Za (o.out.below I);have b1:=hz.lim.2.2.1;have b7:=hz.lim.2.1;unfold maxLen at b1;have a5:=Za (Gs O I);obtain⟨T,J,-⟩:=q1.out.two;clear hz I O;replace s0:=Za s0;go_in;go_wp2_with fail;(try rw[a7]);(try rw[a4]);(try rw[a2]);clear a7 a2 a4 qz s0 b2 b3;refine(Zdk a0.out (by have:=C.out;simp[WE.ok,this])).mono ?_;rintro e w1 ⟨rfl,f⟩;replace q1:=Gm f q1;replace q2:=Gm f q2;replace o:=Za (o.out.below f);have a3:=Gn a5 f;clear a5 f a0 C T J;obtain⟨T,J,-⟩:=q1.out.two;go_wp2_with fail;refine(Zo7 A n c 1 _ w1 o.out.lim Gj Gk).mono ?_;rintro e w3 ⟨Ah,nh,ch,oh,bh,rfl,y,a6,f⟩;replace q1:=Gm f q1;replace q2:=Gm f q2;replace o:=Za (o.out.below f);have a1:=Gn a3 f;clear a3 f;rw[Qd,Zi]at a6;have b8:=y.2.1;have b0:=y.2.2.1;unfold maxLen at b0;have V:val oh=u/2:=by simpa using a6
 replace V:=Za V;clear a6 T J;obtain⟨T,J,-⟩:=q1.out.two;replace y:=Za y;clear o;go_wp2_with fail;refine(Zca false Ah nh ch _ w3 y.out).mono ?_;rintro e w5 ⟨f,rn,rA,rk,rc,code,rfl,hP⟩;replace q1:=Gm f q1;replace q2:=Gm f q2;replace y:=Za (y.out.below f);have b6:=Gn a1 f;clear a1 f;rw[V.out]at hP
 have Y:(sg false (u/2)).natAbs<pw 4096:=by
  show ((u/2:Nat):Int).natAbs<_;rw[Qd];exact Nat.lt_of_le_of_lt (Nat.div_le_self _ _) b4.out
 have a8:Wd w5 rn rA rk rc ((u/2:Nat):Int):=hP.small Y;obtain rfl:code=0:=hP.code0 Y;obtain⟨e0,e1,f0,f1⟩:=q2.out.two;clear hP Y;obtain⟨U,hU,b5,q3,kW,-,-⟩:=Za0 rn rA rk rc b6.out (Nat.le_succ _) q2.out;obtain⟨r0,r1,-⟩:=q3.two;have a9:=Za (kW _ _ _ _ _ a8);clear kW a8;go_wp2_with fail;(try rw[hU]);refine bodyPost_ret (v:=.tuple #[.agg #[.bool rn,.slice rA rk rc],.int .i64 0]) (by simp[results,Tryz.results122,go_sem,r0,r1]) rfl ?_;exact⟨b5,_,_,_,_,rfl,a9.out⟩
structure EdgeP (sg:Int) (mq sq:Rat) (M:Int):Prop where
 low:∀ z:Int,-1<=z->(Zg6 sg mq sq z=true ↔ z<=M)
 m:-1<=M
 big:M<((pw 313:Nat):Int)
 sm:Sm mq
 ss:Sm sq
 z:∀ z:Int,-1<=z->z<=2*M+2->Sm (z:Rat)/\Sm ((z:Rat)-mq)/\Sm (((z:Rat)-mq)*((z:Rat)-mq))
theorem Z1b{M:Int}(h:M<((pw 313:Nat):Int)){z:Int}(h1:-1<=z)(h2:z<=8*M+64):z.natAbs<pw 4096:=by
 have h3:pw 314<=pw 4096:=Zb1 Gj;have h4:pw 314=4294967296*pw 313:=by rw[Zaz]
 have h6:=Zbt 313;generalize pw 4096=R at *;generalize pw 314=Q at *;generalize pw 313=P at *;omega
theorem cmp_le1{a b:Int}:Zdb a b<=0 ↔ a<=b:=by
 unfold Zdb
 split
 ·constructor <;> intro _ <;> omega
 split
 ·constructor <;> intro h1 <;> omega
 constructor <;> intro _ <;> omega
theorem Zxa(mn:Bool)(mA:Option Addr)(mk mc:Nat)(mm:Bool)(mB:Option Addr)(mj md:Nat)(sn:Bool)(sA:Option Addr)(sk sc:Nat)(sm:Bool)(sB:Option Addr)(sj sd:Nat)(sg:Int)(mq sq:Rat)(M:Int)(w:World)(o:Fr w mn mA mk mc mm mB mj md mq)(u:Fr w sn sA sk sc sm sB sj sd sq)(hE:EdgeP sg mq sq M) :
    Calls Tryz.prog 72 #[.agg #[.bool mn,.slice mA mk mc,.bool mm,.slice mB mj md],.agg #[.bool sn,.slice sA sk sc,.bool sm,.slice sB sj sd],.int .i64 sg] w (NumW w M):=by
 have hmx:=Gt;have o1:∀ (fn:Fn) (first cap:Array Value) (w:World),(Instr.makeFunc fn first cap).run Tryz.prog w=.ok (.func fn first cap) w:=λ_ _ _ _=>rfl;have e9:Hid (∀ z:Int,-1<=z->z<=8*M+64->z.natAbs<pw 4096):=Za (λz h1 h2=>Z1b hE.big h1 h2);have n7:=hE.m;replace hE:=Za hE;obtain⟨W0,l7,g1,⟨qm,qs,qp,qr⟩,s0⟩:=Zfu w 73 #[.bool mn,.slice mA mk mc,.bool mm,.slice mB mj md] 73 #[.bool sn,.slice sA sk sc,.bool sm,.slice sB sj sd] 3 #[.int .i64 sg] 39 #[.bool false,.slice none 0 0];replace o:=Za (o.below g1);replace u:=Za (u.below g1);replace qm:=Za qm;replace qs:=Za qs;replace qp:=Za qp;replace qr:=Za qr;replace g1:=Za g1;replace s0:=Za s0;go_in;go_wp2_with fail;(try rw[l7]);clear l7;refine(Zb2 (-1) W0 Gj Gj).mono ?_;rintro e w1 ⟨f,ln,lA,lk,lc,rfl,lf⟩;replace o:=Za (o.out.below f);replace u:=Za (u.out.below f);replace qm:=Gm f qm;replace qs:=Gm f qs;replace qp:=Gm f qp;replace qr:=Gm f qr;have k5:=Gn g1 f;clear g1 f;replace lf:=Za lf;go_wp2_with fail;refine(Zb2 1 w1 Gj Gj).mono ?_;rintro e w3 ⟨f,tn,tA,tk,tc,rfl,tf⟩;replace o:=Za (o.out.below f);replace u:=Za (u.out.below f);replace qm:=Gm f qm;replace qs:=Gm f qs;replace qp:=Gm f qp;replace qr:=Gm f qr;replace lf:=Za (lf.out.below f);have k4:=Gn k5 f;clear k5 f;replace tf:=Za tf;have n8:Hid (w.heap.size+1+1+1<w3.heap.size):=Za qr.out.lt
 obtain⟨V5,l5,d8,⟨q8,q9⟩,s2⟩:=Zef w3 39 #[.bool ln,.slice lA lk lc] 39 #[.bool tn,.slice tA tk tc];obtain⟨g8,j9⟩:=Gz w3.heap.size;rw[j9]at q8 q9 n8;have n9:Hid (g8<g8+1):=Za (Nat.lt_succ_self _);replace s2:=Za s2;replace o:=Za (o.out.below d8);replace u:=Za (u.out.below d8);replace qm:=Gm d8 qm;replace qs:=Gm d8 qs;replace qp:=Gm d8 qp;replace qr:=Gm d8 qr;replace lf:=Za (lf.out.below d8);replace tf:=Za (tf.out.below d8);have k7:=Gn k4 d8;clear k4 d8;replace q8:=Za q8;replace q9:=Za q9;obtain⟨x0,x1,-⟩:=q8.out.two;obtain⟨υ0,υ1,-⟩:=q9.out.two;go_wp2_with fail;(try rw[j9]);(try rw[l5]);clear l5;replace j9:=Za j9;clear x0 x1 υ0 υ1;refine(Zle ln tn lA tA lk lc tk tc (-1) 1 V5 lf.out tf.out).mono ?_;rintro e w7 ⟨f,hn,hA,hk,hc,cd,rfl,hP⟩;replace o:=Za (o.out.below f);replace u:=Za (u.out.below f);replace qm:=Gm f qm;replace qs:=Gm f qs;replace qp:=Gm f qp;replace qr:=Gm f qr;replace lf:=Za (lf.out.below f);replace tf:=Za (tf.out.below f);replace q8:=Gm f q8;replace q9:=Gm f q9;have k8:=Gn k7 f;clear k7 f;have a7:=e9.out (-1+1) Gk Gk;have hf:Wd w7 hn hA hk hc (-1+1):=hP.small a7;obtain rfl:cd=0:=hP.code0 a7;clear hP a7;replace hf:=Za hf;have a5:Hid ((g8+1)<w7.heap.size):=Za q9.out.lt
 obtain⟨g9,e8⟩:=Gz w7.heap.size;obtain⟨o2,k1,j1,a6⟩:=Zan (w:=w7) 39 #[.bool hn,.slice hA hk hc];rw[e8]at j1;replace o:=Za (o.out.below a6);replace u:=Za (u.out.below a6);replace qm:=Gm a6 qm;replace qs:=Gm a6 qs;replace qp:=Gm a6 qp;replace qr:=Gm a6 qr;replace lf:=Za (lf.out.below a6);replace tf:=Za (tf.out.below a6);replace q8:=Gm a6 q8;replace q9:=Gm a6 q9;replace hf:=Za (hf.out.below a6);have k2:=Gn k8 a6;clear k8 a6;replace j1:=Za j1;rw[e8]at a5;go_wp2_with fail;(try rw[e8]);(try rw[k1]);clear k1;replace e8:=Za e8
 go_loopg [] (M+1).toNat (λx wr=>∃ (lo st hi:Int) (ln:Bool) (lA:Option Addr) (lk lc:Nat) (tn:Bool) (tA:Option Addr) (tk tc:Nat) (hn:Bool) (hA:Option Addr) (hk hc:Nat),Hid (x=(M-lo).toNat)/\lo=st-2/\1<=st/\hi=lo+st/\lo<=M/\-1<=lo/\Hid (Blk wr g8 39 #[.bool ln,.slice lA lk lc])/\Hid (Blk wr (g8+1) 39 #[.bool tn,.slice tA tk tc])/\Hid (Blk wr g9 39 #[.bool hn,.slice hA hk hc])/\Hid (Wd wr ln lA lk lc lo)/\Hid (Wd wr tn tA tk tc st)/\Hid (Wd wr hn hA hk hc hi)/\Hid (Blk wr w.heap.size 73 #[.bool mn,.slice mA mk mc,.bool mm,.slice mB mj md])/\Hid (Blk wr (w.heap.size+1) 73 #[.bool sn,.slice sA sk sc,.bool sm,.slice sB sj sd])/\Hid (Blk wr (w.heap.size+1+1) 3 #[.int .i64 sg])/\Hid (Blk wr (w.heap.size+1+1+1) 39 #[.bool false,.slice none 0 0])/\Hid (Fr wr mn mA mk mc mm mB mj md mq)/\Hid (Fr wr sn sA sk sc sm sB sj sd sq)/\Hid (Below w.heap.size w wr))
 case atStart=>exact⟨-1,1,0,_,_,_,_,_,_,_,_,_,_,_,_,Za Gk,by omega,by omega,by omega,by omega,by omega,q8,q9,j1,lf,tf,hf,qm,qs,qp,qr,o,u,k2⟩
 case round =>
  clear q8 q9 j1 lf tf hf qm qs qp qr o u k2;obtain⟨wi,rfl⟩:=Gy wr;obtain⟨lo,st,hi,ln,lA,lk,lc,tn,tA,tk,tc,hn,hA,hk,hc,g5,m2,m3,m4,k0,j8,q8,q9,y,lf,tf,hf,qm,qs,qp,qr,o,u,f5⟩:=hrel;obtain⟨y0,y1,-⟩:=y.out.two;go_wp2_with fail;clear y0 y1;refine(Zud hn hA hk hc (hi) w.heap.size (w.heap.size+1) (w.heap.size+1+1) mn mA mk mc mm mB mj md sn sA sk sc sm sB sj sd sg mq sq wi hf.out qm.out o.out qs.out u.out qp.out (hE.out.z _ Gk Gk).1 hE.out.sm (hE.out.z _ Gk Gk).2.1 (hE.out.z _ Gk Gk).2.2 hE.out.ss).mono ?_;rintro e n3 ⟨rfl,f⟩;replace q8:=Gm f q8;replace q9:=Gm f q9;replace y:=Gm f y;replace lf:=Za (lf.out.below f);replace tf:=Za (tf.out.below f);replace hf:=Za (hf.out.below f);replace qm:=Gm f qm;replace qs:=Gm f qs;replace qp:=Gm f qp;replace qr:=Gm f qr;replace o:=Za (o.out.below f);replace u:=Za (u.out.below f);have e3:=Gn f5 f;clear f5 f;by_cases hbe:hi<=M
  case pos =>
   have t1:Zg6 sg mq sq hi=true:=(hE.out.low hi Gk).2 hbe;rw[t1];clear t1;obtain⟨x0,x1,-⟩:=y.out.two;obtain⟨l6,j3,h6,e5,c7,b9,-⟩:=Za0 hn hA hk hc e3.out (show w.heap.size<=g8 by have:=n8.out;have:=n9.out;have:=a5.out;omega) q8.out;have h8:=Za (b9 _ _ _ Gc q9.out);have a9:=Za (b9 _ _ _ Gc y.out);have lfz:=Za (c7 _ _ _ _ _ lf.out);have tfz:=Za (c7 _ _ _ _ _ tf.out);have b5:=Za (c7 _ _ _ _ _ hf.out);have qmz:=Za (b9 _ _ _ Gc qm.out);have qsz:=Za (b9 _ _ _ Gc qs.out);have qpz:=Za (b9 _ _ _ Gc qp.out);have qrz:=Za (b9 _ _ _ Gc qr.out);have V:=Za (Fr.keep o.out c7);have Y:=Za (Fr.keep u.out c7);have g4:=Za h6;replace e5:=Za e5;obtain⟨y0,y1,z0,z1⟩:=q8.out.two;obtain⟨a0,a1,-⟩:=h8.out.two;go_wp2_with fail;clear x0 x1 a0 a1;(try rw[j3]);clear j3 c7 b9 h6 y0 y1 z0 z1;replace q9:=h8;clear h8;replace y:=a9;clear a9;replace lf:=lfz;clear lfz;replace tf:=tfz;clear tfz;replace hf:=b5;clear b5;replace qm:=qmz;clear qmz;replace qs:=qsz;clear qsz;replace qp:=qpz;clear qpz;replace qr:=qrz;clear qrz;replace o:=V;clear V;replace u:=Y;clear Y q8;have q8:=e5
   clear e5 e3 lf;refine(Zle tn tn tA tA tk tc tk tc st st l6 tf.out tf.out).mono ?_;rintro e m1 ⟨f,an,aA,ak,ac,cd,rfl,hP⟩;replace q8:=Gm f q8;replace q9:=Gm f q9;replace y:=Gm f y;replace tf:=Za (tf.out.below f);replace hf:=Za (hf.out.below f);replace qm:=Gm f qm;replace qs:=Gm f qs;replace qp:=Gm f qp;replace qr:=Gm f qr;replace o:=Za (o.out.below f);replace u:=Za (u.out.below f);have j2:=Gn g4 f;clear g4 f;have a7:=e9.out (st+st) Gk Gk;have af:Wd m1 an aA ak ac (st+st):=hP.small a7;obtain rfl:cd=0:=hP.code0 a7;clear hP a7;replace af:=Za af;obtain⟨l9,i9,h5,d5,c9,b8,-⟩:=Za0 an aA ak ac j2.out (show w.heap.size<=(g8+1) by have:=n8.out;have:=n9.out;have:=a5.out;omega) q9.out;have c8:=Za (b8 _ _ _ Gc q8.out);have a9:=Za (b8 _ _ _ Gc y.out);have tfz:=Za (c9 _ _ _ _ _ tf.out);have b5:=Za (c9 _ _ _ _ _ hf.out);have qmz:=Za (b8 _ _ _ Gc qm.out);have qsz:=Za (b8 _ _ _ Gc qs.out);have qpz:=Za (b8 _ _ _ Gc qp.out);have qrz:=Za (b8 _ _ _ Gc qr.out)
   have V:=Za (Fr.keep o.out c9);have Y:=Za (Fr.keep u.out c9);have afz:=Za (c9 _ _ _ _ _ af.out);have f6:=Za h5;replace d5:=Za d5;obtain⟨y0,y1,z0,z1⟩:=q9.out.two;obtain⟨a0,a1,-⟩:=c8.out.two;obtain⟨b0,b1,-⟩:=d5.out.two;go_wp2_with fail;clear a0 a1 b0 b1;(try rw[i9]);clear i9 c9 b8 h5 y0 y1 z0 z1;replace q8:=c8;clear c8;replace y:=a9;clear a9;replace tf:=tfz;clear tfz;replace hf:=b5;clear b5;replace qm:=qmz;clear qmz;replace qs:=qsz;clear qsz;replace qp:=qpz;clear qpz;replace qr:=qrz;clear qrz;replace o:=V;clear V;replace u:=Y;clear Y;replace af:=afz;clear afz q9;have q9:=d5;clear d5 j2 tf;refine(Zle hn an hA aA hk hc ak ac hi (st+st) l9 hf.out af.out).mono ?_;rintro e l1 ⟨f,bn,bA,bk,bc,cd,rfl,hP⟩;replace q8:=Gm f q8;replace q9:=Gm f q9;replace y:=Gm f y;replace hf:=Za (hf.out.below f);replace qm:=Gm f qm;replace qs:=Gm f qs;replace qp:=Gm f qp;replace qr:=Gm f qr;replace o:=Za (o.out.below f);replace u:=Za (u.out.below f);replace af:=Za (af.out.below f);have i3:=Gn f6 f;clear f6 f;have a7:=e9.out (hi+(st+st)) Gk Gk;have bf:Wd l1 bn bA bk bc (hi+(st+st)):=hP.small a7;obtain rfl:cd=0:=hP.code0 a7;clear hP a7;replace bf:=Za bf
   obtain⟨n2,j0,g7,e6,c5,c2,-⟩:=Za0 bn bA bk bc i3.out (show w.heap.size<=g9 by have:=n8.out;have:=n9.out;have:=a5.out;omega) y.out;have c8:=Za (c2 _ _ _ Gc q8.out);have h8:=Za (c2 _ _ _ Gc q9.out);have b5:=Za (c5 _ _ _ _ _ hf.out);have qmz:=Za (c2 _ _ _ Gc qm.out);have qsz:=Za (c2 _ _ _ Gc qs.out);have qpz:=Za (c2 _ _ _ Gc qp.out);have qrz:=Za (c2 _ _ _ Gc qr.out);have V:=Za (Fr.keep o.out c5);have Y:=Za (Fr.keep u.out c5);have afz:=Za (c5 _ _ _ _ _ af.out);have bfz:=Za (c5 _ _ _ _ _ bf.out);have k3:=Za g7;replace e6:=Za e6;obtain⟨y0,y1,z0,z1⟩:=y.out.two;go_wp2_with fail;(try rw[j0]);clear j0 c5 c2 g7 y0 y1 z0 z1;replace q8:=c8;clear c8;replace q9:=h8;clear h8;replace hf:=b5;clear b5;replace qm:=qmz;clear qmz;replace qs:=qsz;clear qsz;replace qp:=qpz;clear qpz;replace qr:=qrz;clear qrz;replace o:=V;clear V;replace u:=Y;clear Y;replace af:=afz;clear afz;replace bf:=bfz;clear bfz y;have y:=e6;clear e6 i3
   go_roundg (M-hi).toNat
   case measure=>have:=g5.out;omega
   case rel=>exact⟨hi,st+st,hi+(st+st),_,_,_,_,_,_,_,_,_,_,_,_,Za rfl,by omega,by omega,rfl,hbe,by omega,q8,q9,y,hf,af,bf,qm,qs,qp,qr,o,u,k3⟩
  have t1:Zg6 sg mq sq hi=false:=by
   cases h9:Zg6 sg mq sq hi with
   | false=>rfl
   | true=>exact absurd ((hE.out.low hi Gk).1 h9) hbe
  rw[t1];clear t1;go_wp2_with fail;have I:Hid (g8<g9):=Za (by have:=n9.out;have:=a5.out;omega);replace g5:=Za g5
  go_loopg [12,13,14,15,16,17] (hi-lo).toNat (λx v12 v13 v14 v15 v16 v17 wr=>∃ (lo hi:Int) (ln:Bool) (lA:Option Addr) (lk lc:Nat) (hn:Bool) (hA:Option Addr) (hk hc:Nat),Hid (x=(hi-lo).toNat)/\lo<=M/\-1<=lo/\M<hi/\hi<=2*M+2/\Hid (Blk wr g8 39 #[.bool ln,.slice lA lk lc])/\Hid (Blk wr g9 39 #[.bool hn,.slice hA hk hc])/\Hid (Wd wr ln lA lk lc lo)/\Hid (Wd wr hn hA hk hc hi)/\Hid (Blk wr w.heap.size 73 #[.bool mn,.slice mA mk mc,.bool mm,.slice mB mj md])/\Hid (Blk wr (w.heap.size+1) 73 #[.bool sn,.slice sA sk sc,.bool sm,.slice sB sj sd])/\Hid (Blk wr (w.heap.size+1+1) 3 #[.int .i64 sg])/\Hid (Blk wr (w.heap.size+1+1+1) 39 #[.bool false,.slice none 0 0])/\Hid (Fr wr mn mA mk mc mm mB mj md mq)/\Hid (Fr wr sn sA sk sc sm sB sj sd sq)/\Hid (Below w.heap.size w wr))
  case atStart=>exact⟨lo,hi,_,_,_,_,_,_,_,_,Za rfl,k0,j8,by omega,by omega,q8,y,lf,hf,qm,qs,qp,qr,o,u,e3⟩
  case round =>
   clear q8 q9 y lf tf hf qm qs qp qr o u e3 g5 m2 m3 m4 k0 j8 hbe;obtain⟨wj,rfl⟩:=Gy wr;obtain⟨lo,hi,ln,lA,lk,lc,hn,hA,hk,hc,g5,k0,j8,m6,m5,q8,y,lf,hf,qm,qs,qp,qr,o,u,f5⟩:=hrel;obtain⟨x0,x1,-⟩:=y.out.two;obtain⟨υ0,υ1,-⟩:=q8.out.two;go_wp2_with fail;clear x0 x1 υ0 υ1;refine(Zvn hn ln hA lA hk hc lk lc hi lo wj hf.out lf.out).mono ?_;rintro e g6 ⟨f,dn,dA,dk,dc,cd,rfl,hP⟩;replace q8:=Gm f q8;replace y:=Gm f y;replace lf:=Za (lf.out.below f);replace hf:=Za (hf.out.below f);replace qm:=Gm f qm;replace qs:=Gm f qs;replace qp:=Gm f qp;replace qr:=Gm f qr;replace o:=Za (o.out.below f);replace u:=Za (u.out.below f);have f3:=Gn f5 f;clear f5 f;have a7:=e9.out (hi-lo) Gk Gk;have df:Wd g6 dn dA dk dc (hi-lo):=hP.small a7;obtain rfl:cd=0:=hP.code0 a7;clear hP a7;replace df:=Za df;have a4:Hid (g9<g6.heap.size):=Za y.out.lt;obtain⟨e0,d7⟩:=Gz g6.heap.size;obtain⟨d9,i1,C,T⟩:=Zan (w:=g6) 39 #[.bool dn,.slice dA dk dc];rw[d7]at C;replace q8:=Gm T q8;replace y:=Gm T y;replace lf:=Za (lf.out.below T);replace hf:=Za (hf.out.below T);replace qm:=Gm T qm;replace qs:=Gm T qs;replace qp:=Gm T qp;replace qr:=Gm T qr
   replace o:=Za (o.out.below T);replace u:=Za (u.out.below T);replace df:=Za (df.out.below T);have f4:=Gn f3 T;clear f3 T;replace C:=Za C;rw[d7]at a4;go_wp2_with fail;(try rw[d7]);(try rw[i1]);clear i1;replace d7:=Za d7;have a3:d9.cell? ⟨e0,0,none⟩=some (.bool dn):=C.out.cell 0;have a2:d9.cell? ⟨e0,1,none⟩=some (.slice dA dk dc):=C.out.cell 1;have J:Below d9.heap.size d9 d9.drew:=Zf (Qb _ _) 1;replace q8:=Gm J q8;replace y:=Gm J y;replace lf:=Za (lf.out.below J);replace hf:=Za (hf.out.below J);replace qm:=Gm J qm;replace qs:=Gm J qs;replace qp:=Gm J qp;replace qr:=Gm J qr;replace o:=Za (o.out.below J);replace u:=Za (u.out.below J);replace df:=Za (df.out.below J);replace C:=Gm J C;have g0:=Gn f4 J;clear f4;replace a3:=Zb J a3;replace a2:=Zb J a2;clear J;refine Zz [] (λwx=>(wx.cell? ⟨e0,0,none⟩=some (.bool dn))/\(wx.cell? ⟨e0,1,none⟩=some (.slice dA dk dc))) hmx ⟨a3,a2⟩ (λ_=>?_);refine Zke 1 [0] rfl Gi ⟨a3,a2⟩ ?_
   (refine tkA ?_;try simp only[Qa,Zhf,Zgs,Zg9,Gr,Gq,Gp])
   refine tk0 ?_;refine wpAnyL_o 1 λK hK=>?_;go_simp;refine(Zb2 1 d9.drew Gj Gj).mono ?_;rintro e l3 ⟨b7,on,oA,ok,oc,rfl,of⟩;replace q8:=Gm b7 q8;replace y:=Gm b7 y;replace lf:=Za (lf.out.below b7);replace hf:=Za (hf.out.below b7);replace qm:=Gm b7 qm;replace qs:=Gm b7 qs;replace qp:=Gm b7 qp;replace qr:=Gm b7 qr;replace o:=Za (o.out.below b7);replace u:=Za (u.out.below b7);replace df:=Za (df.out.below b7);replace C:=Gm b7 C;have f7:=Gn g0 b7;clear g0;replace a3:=Zb b7 a3;replace a2:=Zb b7 a2;clear b7;replace of:=Za of;refine hK.out _ _ (λ_=>⟨a3,a2⟩) ?_;clear hK K
   try simp only[Qa,Zhf,Zgs,Zg9,Gr,Gq,Gp]
   refine wpAnyL_o 2 λK hK=>?_;go_simp;refine(Zr0 dn on dA oA dk dc ok oc (hi-lo) 1 l3 df.out of.out).mono ?_;rintro e m0 ⟨rfl,b6⟩;replace q8:=Gm b6 q8;replace y:=Gm b6 y;replace lf:=Za (lf.out.below b6);replace hf:=Za (hf.out.below b6);replace qm:=Gm b6 qm;replace qs:=Gm b6 qs;replace qp:=Gm b6 qp;replace qr:=Gm b6 qr;replace o:=Za (o.out.below b6);replace u:=Za (u.out.below b6);replace df:=Za (df.out.below b6);replace C:=Gm b6 C;replace of:=Za (of.out.below b6);have e2:=Gn f7 b6;clear f7;replace a3:=Zb b6 a3;replace a2:=Zb b6 a2;clear b6;refine hK.out _ _ (λ_=>⟨a3,a2⟩) ?_;clear hK K
   try simp only[Qa,Zhf,Zgs,Zg9,Gr,Gq,Gp]
   obtain⟨r2,i2⟩:=Gz (Zdb (hi-lo) 1);rw[i2];have k6:Hid (r2<=0 ↔ hi-lo<=1):=Za (by rw[<- i2];exact cmp_le1);replace i2:=Za i2;refine Zke 5 [3,4,5,6,7] rfl Gi ⟨a3,a2⟩ ?_
   iterate 5 (refine tkA ?_;try simp only[Qa,Zhf,Zgs,Zg9,Gr,Gq,Gp])
   refine tk0 ?_;refine wpAnyL_fin ?_;clear a3 a2 of;by_cases j7:hi-lo<=1
   case pos =>
    have t1:decide (r2<=0)=true:=Gv (k6.out.2 j7);obtain rfl:lo=M:=Gk;obtain⟨x0,x1,-⟩:=q8.out.two;obtain⟨y0,y1,z0,z1⟩:=qr.out.two;obtain⟨U,hU,m7,q3,kW,-,-⟩:=Za0 ln lA lk lc e2.out (show w.heap.size<=(w.heap.size+1+1+1) by omega) qr.out;obtain⟨r0,r1,-⟩:=q3.two;have l4:=Za (kW _ _ _ _ _ lf.out);clear kW;replace j7:=Za j7;go_wp2_with fail;(try rw[hU]);refine bodyPost_ret (v:=.agg #[.bool ln,.slice lA lk lc]) (by simp[results,Tryz.results72,go_sem,r0,r1]) rfl ?_;exact⟨m7,_,_,_,_,rfl,l4.out⟩
   have t1:decide (r2<=0)=false:=Gu (λh=>j7 (k6.out.1 h));clear k6 i2;obtain⟨x0,x1,-⟩:=C.out.two;obtain⟨D,hD⟩:∃ D:Nat,hi-lo=(D:Int):=⟨(hi-lo).toNat,by omega⟩;rw[hD]at df;obtain rfl:dn=false:=by rw[df.out.1];exact Gu Gk
   go_wp2_with fail;clear x0 x1;refine(Zt3 dA dk dc D m0 df.out).mono ?_;rintro e n1 ⟨f,en,eA,ek,ec,rfl,ef⟩;replace q8:=Gm f q8;replace y:=Gm f y;replace lf:=Za (lf.out.below f);replace hf:=Za (hf.out.below f);replace qm:=Gm f qm;replace qs:=Gm f qs;replace qp:=Gm f qp;replace qr:=Gm f qr;replace o:=Za (o.out.below f);replace u:=Za (u.out.below f);replace df:=Za (df.out.below f);replace C:=Gm f C;have j5:=Gn e2 f;clear e2 f;have n6:Hid (hi-lo=(D:Int)):=Za hD;obtain⟨H,hH⟩:∃ H:Nat,D/2=H:=⟨_,rfl⟩;rw[hH]at ef;have o0:1<=H:=Gk;have o3:H<D:=Gk
   replace hH:=Za hH;replace ef:=Za ef;clear df;have n5:=a4;obtain⟨l2,j6,h7,d4,c6,c1,-⟩:=Za0 en eA ek ec j5.out (show w.heap.size<=e0 by have:=n8.out;have:=I.out;have:=a4.out;omega) C.out;have c8:=Za (c1 _ _ _ GZ q8.out);have a9:=Za (c1 _ _ _ GZ y.out);have lfz:=Za (c6 _ _ _ _ _ lf.out);have b5:=Za (c6 _ _ _ _ _ hf.out);have qmz:=Za (c1 _ _ _ GZ qm.out);have qsz:=Za (c1 _ _ _ GZ qs.out);have qpz:=Za (c1 _ _ _ GZ qp.out);have qrz:=Za (c1 _ _ _ GZ qr.out);have V:=Za (Fr.keep o.out c6);have Y:=Za (Fr.keep u.out c6);have efz:=Za (c6 _ _ _ _ _ ef.out);have g2:=Za h7;replace d4:=Za d4;obtain⟨y0,y1,z0,z1⟩:=C.out.two;obtain⟨a0,a1,-⟩:=c8.out.two;obtain⟨b0,b1,-⟩:=d4.out.two;go_wp2_with fail;clear a0 a1 b0 b1;(try rw[j6]);clear j6 c6 c1 h7 y0 y1 z0 z1;replace q8:=c8;clear c8;replace y:=a9;clear a9;replace lf:=lfz;clear lfz;replace hf:=b5;clear b5;replace qm:=qmz;clear qmz;replace qs:=qsz;clear qsz;replace qp:=qpz;clear qpz;replace qr:=qrz;clear qrz;replace o:=V;clear V;replace u:=Y;clear Y;replace ef:=efz;clear efz C;have C:=d4
   clear d4 j5;refine(Zle ln en lA eA lk lc ek ec lo (H:Int) l2 lf.out ef.out).mono ?_;rintro e h4 ⟨f,i7,j4,i0,i4,cd,rfl,hP⟩;replace q8:=Gm f q8;replace y:=Gm f y;replace lf:=Za (lf.out.below f);replace hf:=Za (hf.out.below f);replace qm:=Gm f qm;replace qs:=Gm f qs;replace qp:=Gm f qp;replace qr:=Gm f qr;replace o:=Za (o.out.below f);replace u:=Za (u.out.below f);replace C:=Gm f C;replace ef:=Za (ef.out.below f);have f8:=Gn g2 f;clear g2 f;have a7:=e9.out (lo+(H:Int)) Gk Gk;have c4:Wd h4 i7 j4 i0 i4 (lo+(H:Int)):=hP.small a7;obtain rfl:cd=0:=hP.code0 a7;clear hP a7;replace c4:=Za c4;have b2:Hid (e0<h4.heap.size):=Za C.out.lt;obtain⟨m8,d6⟩:=Gz h4.heap.size;obtain⟨l8,i8,a8,O⟩:=Zan (w:=h4) 39 #[.bool i7,.slice j4 i0 i4];rw[d6]at a8;replace q8:=Gm O q8;replace y:=Gm O y;replace lf:=Za (lf.out.below O);replace hf:=Za (hf.out.below O);replace qm:=Gm O qm;replace qs:=Gm O qs;replace qp:=Gm O qp;replace qr:=Gm O qr;replace o:=Za (o.out.below O);replace u:=Za (u.out.below O);replace C:=Gm O C;replace ef:=Za (ef.out.below O);replace c4:=Za (c4.out.below O)
   have f9:=Gn f8 O;clear f8 O;replace a8:=Za a8;rw[d6]at b2;obtain⟨x0,x1,-⟩:=a8.out.two;go_wp2_with fail;(try rw[d6]);(try rw[i8]);clear i8;replace d6:=Za d6;clear x0 x1;refine(Zud i7 j4 i0 i4 (lo+(H:Int)) w.heap.size (w.heap.size+1) (w.heap.size+1+1) mn mA mk mc mm mB mj md sn sA sk sc sm sB sj sd sg mq sq l8 c4.out qm.out o.out qs.out u.out qp.out (hE.out.z _ Gk Gk).1 hE.out.sm (hE.out.z _ Gk Gk).2.1 (hE.out.z _ Gk Gk).2.2 hE.out.ss).mono ?_;rintro e m9 ⟨rfl,f⟩;replace q8:=Gm f q8;replace y:=Gm f y;replace lf:=Za (lf.out.below f);replace hf:=Za (hf.out.below f);replace qm:=Gm f qm;replace qs:=Gm f qs;replace qp:=Gm f qp;replace qr:=Gm f qr;replace o:=Za (o.out.below f);replace u:=Za (u.out.below f);replace C:=Gm f C;replace ef:=Za (ef.out.below f);replace c4:=Za (c4.out.below f);replace a8:=Gm f a8;have e1:=Gn f9 f;clear f9 f;by_cases hbe:lo+(H:Int)<=M
   case pos =>
    have t1:Zg6 sg mq sq (lo+(H:Int))=true:=(hE.out.low _ Gk).2 hbe;rw[t1];clear t1;obtain⟨x0,x1,-⟩:=a8.out.two;obtain⟨n0,i6,h0,e4,c0,b4,-⟩:=Za0 i7 j4 i0 i4 e1.out (show w.heap.size<=g8 by have:=n8.out;have:=I.out;have:=a4.out;have:=b2.out;omega) q8.out;have a9:=Za (b4 _ _ _ Ga y.out);have lfz:=Za (c0 _ _ _ _ _ lf.out);have b5:=Za (c0 _ _ _ _ _ hf.out);have qmz:=Za (b4 _ _ _ Ga qm.out);have qsz:=Za (b4 _ _ _ Ga qs.out);have qpz:=Za (b4 _ _ _ Ga qp.out);have qrz:=Za (b4 _ _ _ Ga qr.out);have V:=Za (Fr.keep o.out c0);have Y:=Za (Fr.keep u.out c0);have d0:=Za (b4 _ _ _ Ga C.out);have efz:=Za (c0 _ _ _ _ _ ef.out);have f0:=Za (c0 _ _ _ _ _ c4.out);have d3:=Za (b4 _ _ _ Ga a8.out);have l0:=Za h0;replace e4:=Za e4;obtain⟨y0,y1,z0,z1⟩:=q8.out.two;go_wp2_with fail;clear x0 x1;(try rw[i6]);clear i6 c0 b4 h0 y0 y1 z0 z1;replace y:=a9;clear a9;replace lf:=lfz;clear lfz;replace hf:=b5;clear b5;replace qm:=qmz;clear qmz;replace qs:=qsz;clear qsz;replace qp:=qpz;clear qpz;replace qr:=qrz;clear qrz;replace o:=V;clear V;replace u:=Y;clear Y;replace C:=d0;clear d0;replace ef:=efz;clear efz;replace c4:=f0;clear f0;replace a8:=d3;clear d3 q8;have q8:=e4;clear e4 e1
    go_roundg (hi-(lo+(H:Int))).toNat
    case measure=>have:=g5.out;omega
    case rel=>exact⟨lo+(H:Int),hi,_,_,_,_,_,_,_,_,Za rfl,hbe,by omega,m6,m5,q8,y,c4,hf,qm,qs,qp,qr,o,u,l0⟩
   have t1:Zg6 sg mq sq (lo+(H:Int))=false:=by
    cases h9:Zg6 sg mq sq (lo+(H:Int))with
    | false=>rfl
    | true=>exact absurd ((hE.out.low _ Gk).1 h9) hbe
   rw[t1];clear t1;obtain⟨x0,x1,-⟩:=a8.out.two;obtain⟨n4,i5,h3,e7,c3,b3,-⟩:=Za0 i7 j4 i0 i4 e1.out (show w.heap.size<=g9 by have:=n8.out;have:=I.out;have:=a4.out;have:=b2.out;omega) y.out;have c8:=Za (b3 _ _ _ Ga q8.out);have lfz:=Za (c3 _ _ _ _ _ lf.out);have b5:=Za (c3 _ _ _ _ _ hf.out);have qmz:=Za (b3 _ _ _ Ga qm.out);have qsz:=Za (b3 _ _ _ Ga qs.out);have qpz:=Za (b3 _ _ _ Ga qp.out);have qrz:=Za (b3 _ _ _ Ga qr.out);have V:=Za (Fr.keep o.out c3);have Y:=Za (Fr.keep u.out c3);have d0:=Za (b3 _ _ _ Ga C.out);have efz:=Za (c3 _ _ _ _ _ ef.out);have f0:=Za (c3 _ _ _ _ _ c4.out);have d3:=Za (b3 _ _ _ Ga a8.out);have k9:=Za h3;replace e7:=Za e7;obtain⟨y0,y1,z0,z1⟩:=y.out.two;go_wp2_with fail;clear x0 x1;(try rw[i5]);clear i5 c3 b3 h3 y0 y1 z0 z1;replace q8:=c8;clear c8;replace lf:=lfz;clear lfz;replace hf:=b5;clear b5;replace qm:=qmz;clear qmz;replace qs:=qsz;clear qsz;replace qp:=qpz;clear qpz;replace qr:=qrz;clear qrz;replace o:=V;clear V;replace u:=Y;clear Y;replace C:=d0;clear d0;replace ef:=efz;clear efz;replace c4:=f0;clear f0;replace a8:=d3;clear d3 y;have y:=e7;clear e7 e1
   go_roundg ((lo+(H:Int))-lo).toNat
   case measure=>have:=g5.out;omega
   case rel=>exact⟨lo,lo+(H:Int),_,_,_,_,_,_,_,_,Za rfl,k0,j8,by omega,by omega,q8,y,lf,c4,qm,qs,qp,qr,o,u,k9⟩
def axH:Rat:=QA 1 2
def Zbj(a d:Rat):Rat:=(a+d)*axH
def Zfc(a d:Rat):Rat:=(a-d)*axH
def Zjb(a b d:Rat):Rat:=Zfc a d*Zfc a d+b*b
def axT(a d:Rat):Rat:=a+d
def axD(a d:Rat):Rat:=a-d
def axQ(a b d:Rat):Rat:=axD a d*axD a d+4*(b*b)
def axM(a b d:Rat):Int:=((axT a d).den:Int)*((axQ a b d).den:Int)
def axN(a b d:Rat):Int:=(axT a d).num*((axQ a b d).den:Int)
def axS(a b d:Rat):Int:=(axQ a b d).num*((axQ a b d).den:Int)*((axT a d).den:Int)*((axT a d).den:Int)
noncomputable def axR (a b d:Rat):Nat:=rootN (axS a b d).natAbs
noncomputable def axUp (a b d:Rat):Int:=if (axR a b d:Int)*(axR a b d:Int)<axS a b d then (axR a b d:Int)+1 else (axR a b d:Int)
noncomputable def axLong (a b d:Rat):Int:=Int.fdiv (axN a b d+(axR a b d:Int)) (axM a b d+axM a b d)
noncomputable def axShort (a b d:Rat):Int:=Int.fdiv (axN a b d-axUp a b d) (axM a b d+axM a b d)
theorem Zxs(z:Nat):IsRoot z (rootN z):=by
 have h:∃ r,IsRoot z r:=by
  induction z with
  | zero=>exact⟨0,by unfold IsRoot;omega⟩
  | succ z ih =>
   obtain⟨r,h1,h2⟩:=ih;by_cases h3:z+1<(r+1)*(r+1);exact⟨r,by omega,h3⟩;refine⟨r+1,by omega,?_⟩;have e:(r+1+1)*(r+1+1)=(r+1)*(r+1)+2*r+3:=by grind
   omega
 obtain⟨r,hr⟩:=h;rw[Zi5 hr];exact hr
theorem Zrp:2*axH=1:=by decide +kernel
theorem Zxo(q:Rat):(q.num:Rat)=q*((q.den:Nat):Rat):=by
 have h:QA q.num q.den=q:=Rat.num_divInt_den q;rw[Rat.divInt_eq_div]at h;have h0:((q.den:Nat):Rat)≠0:=by exact_mod_cast q.den_nz
 have e:(((q.den:Nat):Int):Rat)=((q.den:Nat):Rat):=Qm _;rw[e]at h
 have h1:(q.num:Rat)/((q.den:Nat):Rat)*((q.den:Nat):Rat)=(q.num:Rat):=by
  rw[Rat.div_def,Rat.mul_assoc,Rat.inv_mul_cancel _ h0,Rat.mul_one]
 rw[h]at h1;exact h1.symm
section
variable{a b d:Rat}
theorem Zmg:0<axM a b d:=by
 unfold axM;have h1:=(axT a d).den_pos;have h2:=(axQ a b d).den_pos;exact Int.mul_pos Gk Gk
theorem Z2k:((axN a b d:Int):Rat)=2*Zbj a d*(axM a b d:Int):=by
 unfold axN axM Zbj;rw[Qh,Qh,Zxo]
 have e:2*((a+d)*axH)=axT a d:=by
  have:=Zrp;unfold axT;grind
 rw[e];simp only[Qm]
 grind
theorem axQ_eq:axQ a b d=4*Zjb a b d:=by
 have h:=Zrp;unfold axQ Zjb Zfc axD;have e:4*((a-d)*axH*((a-d)*axH))=(a-d)*(a-d)*((2*axH)*(2*axH)):=by grind
 have e2:4*((a-d)*axH*((a-d)*axH)+b*b)=4*((a-d)*axH*((a-d)*axH))+4*(b*b):=by grind
 rw[e2,e,h];grind
theorem Z06:((axS a b d:Int):Rat)=4*Zjb a b d*(axM a b d:Int)*(axM a b d:Int):=by
 unfold axS axM;rw[Qh,Qh,Qh,Qh,Zxo,axQ_eq];simp only[Qm]
 grind
theorem Z2h(x:Rat):0<=x*x:=by
 rcases Rat.le_total (a:=0) (b:=x)with h|h;exact Qs h h;have e:x*x=(-x)*(-x):=by grind
 have h2:0 <= -x:=Rat.neg_le_neg h |> λh3=>by rw[Rat.neg_zero]at h3;exact h3
 rw[e];exact Qs h2 h2
theorem axQ_nn:0<=axQ a b d:=by
 unfold axQ;have h1:=Z2h (axD a d);have h2:=Z2h b;have h3:(0:Rat)<=4*(b*b):=Qs Gj h2
 grind
theorem axS_nn:0<=axS a b d:=by
 unfold axS;have h:=Rat.num_nonneg.2 (axQ_nn (a:=a) (b:=b) (d:=d));exact Qt (Qt (Qt h Gk) Gk) Gk
theorem Zxl:RootZ (axS a b d) (axR a b d) (axUp a b d):=by
 obtain⟨h1,h2⟩:=Zxs (axS a b d).natAbs;have h0:=axS_nn (a:=a) (b:=b) (d:=d);have e:((axS a b d).natAbs:Int)=axS a b d:=Gk;refine⟨by omega,?_,?_,rfl⟩;rw[<- e];unfold axR;exact_mod_cast h1;rw[<- e];unfold axR;exact_mod_cast h2
theorem ax_long{z:Int}:((z:Rat)-Zbj a d<=0 \/ ((z:Rat)-Zbj a d)*((z:Rat)-Zbj a d)<=Zjb a b d) ↔ z<=axLong a b d:=
 Zyu Zmg Z2k Z06 Zxl
theorem ax_short{z:Int}:((z:Rat)-Zbj a d<=0/\Zjb a b d<=((z:Rat)-Zbj a d)*((z:Rat)-Zbj a d)) ↔ z<=axShort a b d:=
 Zwg Zmg Z2k Z06 Zxl
theorem ax_low1{z:Int}:Zg6 1 (Zbj a d) (Zjb a b d) z=true ↔ z<=axLong a b d:=by
 unfold Zg6;rw[Gx Gj,Bool.or_eq_true,decide_eq_true_eq,decide_eq_true_eq];exact ax_long
theorem ax_low2{z:Int}:Zg6 (-1) (Zbj a d) (Zjb a b d) z=true ↔ z<=axShort a b d:=by
 unfold Zg6;rw[Gw Gj,Bool.and_eq_true,decide_eq_true_eq,decide_eq_true_eq];exact ax_short
theorem Z0m(ha:0<a)(hd:0<d)(hp:0<a*d-b*b):0<=axShort a b d:=by
 have hH:0<axH:=GY;have hm:0<Zbj a d:=Rat.mul_pos (by grind) hH;refine ax_short.1 ⟨?_,?_⟩
 ·show (0:Rat)-Zbj a d<=0
  grind
 have h:=Zrp
 have e:((0:Int):Rat)-Zbj a d=-Zbj a d:=by
  show (0:Rat)-Zbj a d=_
  grind
 rw[e]
 have e2:-Zbj a d * -Zbj a d=Zjb a b d+(a*d-b*b):=by
  unfold Zbj Zjb Zfc;have e3:-((a+d)*axH) * -((a+d)*axH)=(a-d)*axH*((a-d)*axH)+a*d*((2*axH)*(2*axH)):=by grind
  rw[e3,h];grind
 rw[e2];grind
theorem Z2x(ha:0<a)(hd:0<d):0<=axLong a b d:=by
 have hH:0<axH:=GY;have hm:0<Zbj a d:=Rat.mul_pos (by grind) hH;refine ax_long.1 (.inl ?_);show (0:Rat)-Zbj a d<=0
 grind
end
theorem smH:SmN 1 1 axH:=⟨by decide +kernel,by decide +kernel⟩
theorem sm4:SmN 1 1 (4:Rat):=⟨by decide +kernel,by decide +kernel⟩
section
variable{a b d:Rat}
theorem sz_t(sa:SmN 5 5 a)(sd:SmN 5 5 d):SmN 11 10 (axT a d):=(sa.add sd).mono Gj Gj
theorem sz_d(sa:SmN 5 5 a)(sd:SmN 5 5 d):SmN 11 10 (axD a d):=(sa.sub sd).mono Gj Gj
theorem Zqv(sa:SmN 5 5 a)(sd:SmN 5 5 d):SmN 12 11 (Zbj a d):=(sz_t sa sd).mulN smH
theorem Zod(sa:SmN 5 5 a)(sd:SmN 5 5 d):SmN 12 11 (Zfc a d):=(sz_d sa sd).mulN smH
theorem sz_sq(sa:SmN 5 5 a)(sb:SmN 5 5 b)(sd:SmN 5 5 d):SmN 35 32 (Zjb a b d):=(((Zod sa sd).mulN (Zod sa sd)).add (sb.mulN sb)).mono Gj Gj
theorem sz_q(sa:SmN 5 5 a)(sb:SmN 5 5 b)(sd:SmN 5 5 d):SmN 34 31 (axQ a b d):=(((sz_d sa sd).mulN (sz_d sa sd)).add (sm4.mulN (sb.mulN sb))).mono Gj Gj
theorem sz_n(sa:SmN 5 5 a)(sb:SmN 5 5 b)(sd:SmN 5 5 d):(axN a b d).natAbs<pw 42:=by
 unfold axN;rw[Qn,Qd,show 42=11+31 from rfl,Zb8];exact Qj (sz_t sa sd).1 (sz_q sa sb sd).2
theorem sz_s0(sa:SmN 5 5 a)(sb:SmN 5 5 b)(sd:SmN 5 5 d):((axQ a b d).num*((axQ a b d).den:Int)).natAbs<pw 65:=by
 rw[Qn,Qd,show 65=34+31 from rfl,Zb8];exact Qj (sz_q sa sb sd).1 (sz_q sa sb sd).2
theorem sz_s1(sa:SmN 5 5 a)(sb:SmN 5 5 b)(sd:SmN 5 5 d):((axQ a b d).num*((axQ a b d).den:Int)*((axT a d).den:Int)).natAbs<pw 75:=by
 rw[Qn,Qd,show 75=65+10 from rfl,Zb8];exact Qj (sz_s0 sa sb sd) (sz_t sa sd).2
theorem sz_s(sa:SmN 5 5 a)(sb:SmN 5 5 b)(sd:SmN 5 5 d):(axS a b d).natAbs<pw 85:=by
 unfold axS;rw[Qn,Qd,show 85=75+10 from rfl,Zb8];exact Qj (sz_s1 sa sb sd) (sz_t sa sd).2
theorem sz_r(sa:SmN 5 5 a)(sb:SmN 5 5 b)(sd:SmN 5 5 d):axR a b d<pw 85:=by
 have h:=(Zxs (axS a b d).natAbs).1;have h1:=sz_s sa sb sd;have h2:axR a b d<=axR a b d*axR a b d:=Nat.le_mul_self _;have h3:axR a b d*axR a b d<=(axS a b d).natAbs:=h;omega
theorem sz_up(sa:SmN 5 5 a)(sb:SmN 5 5 b)(sd:SmN 5 5 d):(axUp a b d).natAbs<=pw 85:=by
 have h:=sz_r sa sb sd;unfold axUp
 split <;> omega
theorem Zw4{x m:Int}(hm:0<m){K:Nat}(hx:x.natAbs<=K):(Int.fdiv x m).natAbs<=K:=by
 rw[Int.fdiv_eq_ediv_of_nonneg _ Gk]
 exact Nat.le_trans (by
  rcases Int.le_total 0 x with h|h
  ·have h1:=Int.ediv_nonneg h (by omega:0<=m)
   have h2:=Int.ediv_le_self m h;omega
  have h1:x<=x/m:=by
    rw[Qr hm];have h9:x*m<=x*1:=Int.mul_le_mul_of_nonpos_left h Gk;omega
  have h2:x/m<=0:=by
   apply Classical.byContradiction;intro h3;have h4:=(Qr (a:=1) (b:=x) hm).1 Gk;omega
  omega) hx
theorem Z1j{x y:Int}(hx:x.natAbs<pw 42)(hy:y.natAbs<=pw 85):(x+y).natAbs<=pw 86:=by
 have h1:pw 42<=pw 85:=Zb1 Gj;have h2:pw 86=4294967296*pw 85:=by rw[Zaz]
 have h3:=Zbt 85;have h4:=Int.natAbs_add_le x y;rw[h2];generalize pw 85=P at *;generalize pw 42=Q at *;omega
theorem Zw8(sa:SmN 5 5 a)(sb:SmN 5 5 b)(sd:SmN 5 5 d):(axLong a b d).natAbs<=pw 86:=by
 have hm:=Zmg (a:=a) (b:=b) (d:=d);exact Zw4 Gk (Z1j (sz_n sa sb sd) (by have:=sz_r sa sb sd;omega))
theorem Zr6(sa:SmN 5 5 a)(sb:SmN 5 5 b)(sd:SmN 5 5 d):(axShort a b d).natAbs<=pw 86:=by
 have hm:=Zmg (a:=a) (b:=b) (d:=d);unfold axShort;rw[Int.sub_eq_add_neg];exact Zw4 Gk (Z1j (sz_n sa sb sd) (by have:=sz_up sa sb sd;rw[Int.natAbs_neg];exact this))
theorem big_M{M:Int}(h:M.natAbs<=pw 86):M<((pw 313:Nat):Int):=by
 have h3:pw 86<pw 313:=Zci Gj;generalize pw 313=P at *;generalize pw 86=Q at *;omega
theorem sz_z{M z:Int}(h:M.natAbs<=pw 86)(h1:-1<=z)(h2:z<=2*M+2):SmN 88 1 (z:Rat):=by
 refine SmN.intC z 87 ?_;have h3:pw 87=4294967296*pw 86:=by rw[Zaz]
 have h4:=Zbt 86;rw[h3];generalize pw 86=P at *;omega
theorem ax_z(sa:SmN 5 5 a)(sd:SmN 5 5 d){M z:Int}(h:M.natAbs<=pw 86)(h1:-1<=z)(h2:z<=2*M+2):Sm (z:Rat)/\Sm ((z:Rat)-Zbj a d)/\Sm (((z:Rat)-Zbj a d)*((z:Rat)-Zbj a d)):=by
 have k1:=sz_z h h1 h2;have k2:SmN 100 12 ((z:Rat)-Zbj a d):=(k1.sub (Zqv sa sd)).mono Gj Gj;exact⟨k1.sm Gj Gj,k2.sm Gj Gj,(k2.mulN k2).sm Gj Gj⟩
theorem Zvk(sa:SmN 5 5 a)(sb:SmN 5 5 b)(sd:SmN 5 5 d)(ha:0<a)(hd:0<d):EdgeP 1 (Zbj a d) (Zjb a b d) (axLong a b d):=
 ⟨λ_ _=>ax_low1,Int.le_trans Gj (Z2x ha hd),big_M (Zw8 sa sb sd),(Zqv sa sd).sm Gj Gj,(sz_sq sa sb sd).sm Gj Gj,λ_ h1 h2=>ax_z sa sd (Zw8 sa sb sd) h1 h2⟩
theorem Ztr(sa:SmN 5 5 a)(sb:SmN 5 5 b)(sd:SmN 5 5 d)(ha:0<a)(hd:0<d)(hp:0<a*d-b*b):EdgeP (-1) (Zbj a d) (Zjb a b d) (axShort a b d):=
 ⟨λ_ _=>ax_low2,Int.le_trans Gj (Z0m ha hd hp),big_M (Zr6 sa sb sd),(Zqv sa sd).sm Gj Gj,(sz_sq sa sb sd).sm Gj Gj,λ_ h1 h2=>ax_z sa sd (Zr6 sa sb sd) h1 h2⟩
end
def exR(A B:Option Addr):List RI:=[⟨A,2,2,[1,0]⟩,⟨B,2,2,[0,2]⟩]
def exW:List Int:=[1000000000000,1000000000000]
def exQ:List (List Rat):=[[1000000,0],[0,250000]]
section
variable{A B:Option Addr}
theorem Z2n:Zex (exR A B) exW 2 0 0=1000000000000/\Zex (exR A B) exW 2 0 1=0/\Zex (exR A B) exW 2 1 0=0/\Zex (exR A B) exW 2 1 1=4000000000000:=by
 have d1:Zc0 exW (Zcg (exR A B) 0) (Zcg (exR A B) 0) 2=1000000000000:=rfl;have d2:Zc0 exW (Zcg (exR A B) 0) (Zcg (exR A B) 1) 2=0:=rfl;have d3:Zc0 exW (Zcg (exR A B) 1) (Zcg (exR A B) 0) 2=0:=rfl;have d4:Zc0 exW (Zcg (exR A B) 1) (Zcg (exR A B) 1) 2=4000000000000:=rfl;unfold Zex;rw[d1,d2,d3,d4];exact⟨rfl,rfl,rfl,rfl⟩
theorem ex_n0:n0I (exR A B)=2:=rfl
theorem ex_long:(exR A B).any RI.long6=false:=rfl
theorem ex_sys:Zd5 (exR A B) (List.replicate (min (exR A B).length 200) 0) exW=0:=by
 show Zd5 (exR A B) [0,0] exW=0;rfl
theorem ex_det:Zay 2 (Zex (exR A B) exW 2)≠0:=by
 obtain⟨e1,e2,e3,e4⟩:=Z2n (A:=A) (B:=B)
 have e:Zay 2 (Zex (exR A B) exW 2)=Zay 2 (λi j=>if i=0 then (if j=0 then 1000000000000 else 0)else (if j=0 then 0 else 4000000000000)):=Za7 λi j hi hj=>by
  rcases(show i=0 \/ i=1 by omega)with rfl|rfl <;> rcases(show j=0 \/ j=1 by omega)with rfl|rfl;exact e1;exact e2;exact e3;exact e4
 rw[e];decide +kernel
theorem ex_of:ofE (exR A B) exW=0:=Z2j ex_long ex_sys ex_det
theorem ex_mod{k:Nat}(hk:k<=300):ModI (exR A B) 2 0 k:=by
 refine⟨λj r _ _ hr=>?_,by omega,by omega,by omega,hk⟩;rcases j with _|_|j;cases hr;exact⟨.inl (show (2:Nat)<=4 from by decide),show (2:Nat)<=15 from by decide⟩;cases hr;exact⟨.inl (show (2:Nat)<=4 from by decide),show (2:Nat)<=15 from by decide⟩;cases hr
theorem ex_ofQ{X:Nat->Nat->Rat}(h:OfP (exR A B) exW 2 2 X):ofQ X 2=exQ:=by
 obtain⟨e1,e2,e3,e4⟩:=Z2n (A:=A) (B:=B);have u:=h.1 0 0 Gj Gj;have f:=h.1 0 1 Gj Gj;have o:=h.1 1 0 Gj Gj;have y:=h.1 1 1 Gj Gj;simp only[Z0,e1,e2,e3,e4]at u f o y
 have J:X 0 2*Zea=1000000:=by
  have e:(1000000000000:Rat)*X 0 2=1:=by
   have h9:=u;simp at h9
   grind
  have e9:Zea=1000000*1000000000000:=GY;rw[e9];grind
 have O:X 1 2*Zea=0:=by
  have e:(4000000000000:Rat)*X 1 2=0:=by
   have h9:=f;simp at h9
   grind
  have e2:X 1 2=0:=by grind
  rw[e2];grind
 have C:X 0 3*Zea=0:=by
  have e:(1000000000000:Rat)*X 0 3=0:=by
   have h9:=o;simp at h9
   grind
  have e2:X 0 3=0:=by grind
  rw[e2];grind
 have I:X 1 3*Zea=250000:=by
  have e:(4000000000000:Rat)*X 1 3=1:=by
   have h9:=y;simp at h9
   grind
  have e9:Zea=250000*4000000000000:=GY;rw[e9];grind
 show [[X 0 2*Zea,X 0 3*Zea],[X 1 2*Zea,X 1 3*Zea]]=exQ;rw[J,C,O,I];rfl
end
theorem Zr2{rs:List RX}(h:Zfl rs=Zfy exQ):Zlh 1 rs:=λr hr e he=>by
 have h1:Zov r ∈ Zfy exQ:=by rw[<- h];exact Qv hr
 have h2:Zl7 e ∈ (Zov r).2:=Qv he;have h3:∀ x ∈ Zfy exQ,∀ y ∈ x.2,y.1<=1:=GY;exact .inl (h3 _ h1 _ h2)
theorem Zrm{rs:List RX}(h:Zfl rs=Zfy exQ):Zat rs=0:=by
 have hq:=Zl9 h
 have hl:rs.length=2:=by
  have h9:=congrArg List.length h;simpa [Zfl,Zfy,exQ]using h9
 unfold Zat;rw[Zsb,Zs3,h,hq,hl];decide +kernel
theorem ex_ent:Zh exQ 0 0=1000000/\Zh exQ 0 1=0/\Zh exQ 1 1=250000:=⟨rfl,rfl,rfl⟩
theorem Zxe:axR 1000000 0 250000=750000:=by
 unfold axR
 exact Zi5 (by
  have e:(axS 1000000 0 250000).natAbs=562500000000:=GY;rw[e];exact⟨by decide,by decide⟩)
theorem ex_axes:axLong 1000000 0 250000=1000000/\axShort 1000000 0 250000=250000:=by
 have e1:axN 1000000 0 250000=1250000:=GY;have e2:axM 1000000 0 250000=1:=GY;have e3:axS 1000000 0 250000=562500000000:=GY
 have e4:axUp 1000000 0 250000=750000:=by
  unfold axUp;rw[Zxe,e3];decide
 unfold axLong axShort;rw[Zxe,e1,e2,e4];decide
theorem ex_bil{x:Nat->Rat}(h0:x 0=1000)(h1:x 1=500):bil (Zh exQ) 2 x x=2:=by
 have e:bil (Zh exQ) 2 x x=bil (Zh exQ) 2 (λi=>if i=0 then 1000 else 500) (λi=>if i=0 then 1000 else 500):=by
  have hc:∀ i,i<2->x i=(λi=>if i=0 then (1000:Rat)else 500) i:=λi hi=>by
   rcases(show i=0 \/ i=1 by omega)with rfl|rfl;exact h0;exact h1
  rw[Zp0 hc,Z05,Zp0 hc]
 rw[e];decide +kernel
theorem LimI.lit7{w:World}{g:Nat}{t:TypeId}{l:List Int}{cs:Array Value}(h:Blk w g t cs)(hc:cs=(l.map (λx=>Value.int .i64 x)).toArray)(hl:∀ x ∈ l,I64 x)(hn:l.length<=1000):LimI w (some ⟨g,0,none⟩) l.length l.length l:=by
 subst hc;refine⟨rfl,Qc _,by unfold maxLen;omega,hl,λ_=>⟨g,0,rfl,λk hk=>?_⟩⟩;rw[Nat.zero_add,h.cell];simp[Qe hk]
theorem MFL.two7{w:World}{g:Nat}{t:TypeId}{A B:Option Addr}{n c m d:Nat}{p q:List Rat}(h:Blk w g t #[.slice A n c,.slice B m d])(hp:FL w A n c p)(hq:FL w B m d q):MFL w (some ⟨g,0,none⟩) 2 2 [p,q]:=by
 refine⟨rfl,Qc _,by unfold maxLen;omega,λ_=>⟨g,0,rfl,λk r hr=>?_⟩⟩
 match k,hr with
 | 0,hr=>cases hr;exact⟨A,n,c,h.cell 0,hp⟩
 | 1,hr=>cases hr;exact⟨B,m,d,h.cell 1,hq⟩
 | k+2,hr=>simp at hr
theorem MIL.two7{w:World}{g:Nat}{t:TypeId}{a b:RI}(h:Blk w g t #[.slice a.A a.n a.c,.slice b.A b.n b.c])(ha:LimI w a.A a.n a.c a.l)(hb:LimI w b.A b.n b.c b.l):MIL w (some ⟨g,0,none⟩) 2 2 [a,b]:=by
 refine⟨rfl,Qc _,by unfold maxLen;omega,λr hr=>?_,λ_=>⟨g,0,rfl,λk r hr=>?_⟩⟩
 ·simp only[Qu,Qp,or_false]at hr
  rcases hr with rfl|rfl;exact ha;exact hb
 match k,hr with
 | 0,hr=>cases hr;exact h.cell 0
 | 1,hr=>cases hr;exact h.cell 1
 | k+2,hr=>simp at hr
theorem Zh8(w:World):Calls Tryz.prog 37 #[] w λe w'=>∃ A,e=.returned (.slice A 2 2)/\Below w.heap.size w w'/\MFL w' A 2 2 exQ:=by
 have a0:∀ l:List Int,(∀ x ∈ l,x.natAbs<=1000000)->∀ x ∈ l,I64 x:=λl h x hx=>by have:=h x hx;unfold I64;omega
 obtain⟨g1,O⟩:=Gz w.heap.size;obtain⟨V1,Y,qa,I⟩:=Zan (w:=w) 2 #[.int .i64 1000000,.int .i64 0];have o:=LimI.lit7 (l:=[1000000,0]) qa rfl (a0 _ Gj) Gj;rw[O]at o;go_in;go_wp2_with fail;(try rw[O]);(try rw[Y]);clear Y qa;replace O:=Za O;refine(Zmq (some ⟨g1,0,none⟩) 2 2 [1000000,0] V1 o Gj).mono ?_;rintro e w2 ⟨v2,rfl,a4,a3⟩;have U:=Gs I a4;obtain⟨A2,c2,rfl,f⟩:=a3.fl;replace f:FL w2 A2 2 c2 [1000000,0]:=f;replace f:=Za f;clear a3 o a4 I;obtain⟨g2,T⟩:=Gz w2.heap.size;obtain⟨V2,a5,qa,J⟩:=Zan (w:=w2) 2 #[.int .i64 0,.int .i64 250000];have o:=LimI.lit7 (l:=[0,250000]) qa rfl (a0 _ Gj) Gj;rw[T]at o;simp only[Qf,Qg,Qz,QB];go_wp2_with fail;(try rw[T]);(try rw[a5]);clear a5 qa;replace T:=Za T;refine(Zmq (some ⟨g2,0,none⟩) 2 2 [0,250000] V2 o Gj).mono ?_;rintro e w3 ⟨v3,rfl,a6,a2⟩;have C:=Gs J a6;have V:=Gs U C;obtain⟨A3,c3,rfl,y⟩:=a2.fl;replace y:FL w3 A3 2 c3 [0,250000]:=y;replace f:=Za (f.out.below C);replace y:=Za y;clear a2 o a6 J C U;obtain⟨g4,a1⟩:=Gz w3.heap.size;obtain⟨V4,a9,qa,u⟩:=Zan (w:=w3) 35 #[.slice A2 2 c2,.slice A3 2 c3];rw[a1]at qa;have a7:=Za (MFL.two7 qa (f.out.below u) (y.out.below u));have a8:=Za (Gs V u);clear f y V u qa;simp only[Qf,Qg,Qz,QB];go_wp2_with fail;(try rw[a1]);(try rw[a9]);go_ret;exact⟨_,rfl,a8.out,a7.out⟩
