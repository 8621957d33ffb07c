/- The body of the law CovarDistances: distances and -/
import Derived.OpenShut
import Derived.Test.YthappeninglakaaGreatZe24
set_option maxRecDepth 100000
set_option maxHeartbeats 8000000
set_option linter.unusedSimpArgs false
set_option linter.unusedVariables false
namespace Go.Proofs.YthappeninglakaaGreat
open Go.RowKit
open Act renaming put→Qa
open Below renaming refl→Qb
open Nat renaming lt_of_le_of_lt→Qc,le_trans→Qj,le_refl→Ql,le_of_not_lt→Qn
open List renaming getElem?_map→Qd,take_of_length_le→Qe,take_add_one→Qg,all_eq_true→Qh,getElem?_eq_getElem→Qi,mem_singleton→Qk,getElem_mem→Qm,length_take→Qo,length_map→Qp
open Rat renaming divInt→Qf
attribute [local go_sem] Zg
def zB(es:List FX)(j:Nat):Bool:=(es.take j).all λe=>decide (e.n=0)
theorem zB_succ{es:List FX}{j:Nat}{e:FX}(h:es[j]?=some e):zB es (j+1)=(zB es j && decide (e.n=0)):=by
 unfold zB;rw[Qg,h];simp
theorem zB_all{w:World}{A:Option Addr}{n c:Nat}{es:List FX}(h:FXL w A n c es)(hk:∀ e ∈ es,e.ok=true):zB es n=true ↔ ∀ i,Zeu es i=0:=by
 have hl:es.length=n:=h.1;unfold zB;rw[Qe Gk,Qh];have hz:∀ e ∈ es,(e.n=0 ↔ e.q=0):=λe he=>Zqr (Zk6 (h.2.2.2.1 e he).1 (h.2.2.2.1 e he).2 (hk e he));constructor
 ·intro ha i
  rcases Nat.lt_or_ge i es.length with hi|hi
  ·unfold Zeu
   rw[Qd,Qi hi];exact(hz _ (Qm _)).1 (of_decide_eq_true (ha _ (Qm hi)))
  exact Zr1 hi
 intro ha e he;obtain⟨i,hi,rfl⟩:=List.getElem_of_mem he;have h1:=ha i;unfold Zeu at h1;rw[Qd,Qi hi]at h1;exact Gv ((hz _ he).2 h1)
theorem fx_sm64{w:World}{e:FX}(hin:e.in_ w)(hk:e.ok=true)(hf:e.few<=64):Sm e.q:=by
 obtain⟨h1,h2⟩:=Zj6 hin hk hf;exact⟨Qc h1 (Zct Gj),Qc h2 (Zct Gj)⟩
theorem Zsd{w:World}{A:Option Addr}{n c:Nat}{es et:List FX}(h:FXL w A n c es)(hk:∀ e ∈ es,e.ok=true/\e.few<=4)(hl:et.length=n)(ht:et.map FX.q=es.map λe=>e.q*2)(hs:et.map Zit=(es.map λe=>e.q*2).map λq=>(Znd q,true,q)):Zci et=true/\∀ i,LeN 7 (Zeu et i):=by
 have f:∀ e ∈ es,LeN 5 (e.q*2):=λe he=>LeN.twice (k:=4) (Zj6 (h.2.2.2.1 e he) (hk e he).1 (hk e he).2);refine⟨?_,λi=>?_⟩
 ·unfold Zci
  rw[Qh];intro e he;have h1:Zit e ∈ et.map Zit:=List.mem_map_of_mem he;rw[hs,List.map_map]at h1;obtain⟨x,hx,e1⟩:=List.mem_map.1 h1;have h2:=f x hx;have h3:Znd (x.q*2)<=64:=Nat.max_le.2 ⟨(Zr _ _).2 (Qc h2.1 (Zct Gj)),(Zr _ _).2 (Qc h2.2 (Zct Gj))⟩;unfold Zit at e1;injection e1 with e1 e2
  injection e2 with e2 e3
  unfold FX.fine64;rw[<- e1,<- e2];simp;exact h3
 unfold Zeu;rw[ht,Qd];cases he:es[i]? with
 | none=>exact⟨Nat.zero_le _,Zb1 _⟩
 | some e=>exact LeN.mono (f e (List.mem_of_getElem? he)) Gj
theorem Ij{G:Prop}(h:G:=by
 have h9:=hv.out.below aO.out;obtain⟨g',o',e',e1,e2,e3,-,-⟩:=h9.at_ fw;rw[dI.out]at e2;cases e1;cases e2;exact e3):G:=h
theorem ET{G:Prop}(h:G:=by
 go_wp2_with fail;(try rw[cG]);(try rw[eI]);(try rw[eK]);clear jh jj jk jl jm jn jo jp eI;replace cG:=Zb cG;clear eK;go_ret;exact⟨rfl,fP.out⟩):G:=h
theorem Ztu(A V:Option Addr)(n c nv cv:Nat)(rs:List RX)(es:List FX)(i k:Int)(w:World)(h:MXL w A n c rs)(hv:FXL w V nv cv es)(hi1:-9223372036854775808<=i)(hi2:i<=9223372036854775807)(hk1:-9223372036854775808<=k)(hk2:k<=9223372036854775807) :
    Calls Tryz.prog 5 #[.slice A n c,.slice V nv cv,.int .i64 i,.int .i64 k] w λe w'=>e=.returned (.bool true)/\Below w.heap.size w w':=by
 have hmx:=Gt;obtain⟨iF,hi,r1,r6,q6⟩:=info_parts Ze0;have s3:=h.2.2.1;have v5:=h.2.1;unfold maxLen at s3;have q5:=hv.2.2.1;have υ7:=hv.2.1;unfold maxLen at q5;have m6:=Zb h.1;have s5:=Zb hv.1;obtain⟨E,hE⟩:=Gz (Za2 rs);replace hE:=Zb hE;have o9:Hid (Below w.heap.size w w):=Zb (Qb _ _);replace h:=Zb h;replace hv:=Zb hv;go_in;go_wp2_with fail;refine(Zyi w).mono ?_;rintro e w1 ⟨rfl,y⟩;replace h:=Zb (h.out.below y);replace hv:=Zb (hv.out.below y);have e5:=Gn o9 y;clear o9 y;go_wp2_with fail;refine(Zjy A n c rs w1 h.out).mono ?_;rintro e w3 ⟨b,rfl,y,e4⟩;replace h:=Zb (h.out.below y);replace hv:=Zb (hv.out.below y);have c6:=Gn e5 y;clear e5 y;cases b with
 | true =>
  go_wp2_with fail;go_ret;exact⟨rfl,c6.out⟩
 | false =>
  have i5:=Zb (e4 rfl);clear e4;have hf:Hid (Zjr 4 rs):=Zb i5.out.2.2
  have l9:=Zb (FacC.of h.out hf.out (λh6=>by
   have h9:=i5.out.1;have h7:=m6.out;rcases(show n=0 \/ n=1 \/ n=2 \/ n=3 \/ n=4 by omega)with rfl|rfl|rfl|rfl|rfl <;> omega))
  have p4:Hid (Za2 rs=0->n<=4):=Zb (λh0=>by
   have h9:=i5.out.1;have h8:=(Zev h0).1.facts.2.1;have h7:=m6.out;omega)
  clear i5;go_wp2_with fail;refine(Zqv A n c rs w3 h.out l9.out E hE.out).mono ?_;rintro e w5 ⟨rfl,y⟩;replace h:=Zb (h.out.below y);replace hv:=Zb (hv.out.below y);have m4:=Gn c6 y;clear c6 y;by_cases j7:E=0
  case neg =>
   have t1:(E != 0)=true:=by simpa using j7
   have v4:decide (E=0)=false:=Gu j7;replace j7:=Zb j7;go_wp2_with fail;go_ret;exact⟨rfl,m4.out⟩
  subst j7;obtain⟨g7,n2⟩:=Gz w5.heap.size;obtain⟨V9,n7,g9,i4⟩:=Zak (w:=w5) 35 #[.slice V nv cv];rw[n2]at g9;replace h:=Zb (h.out.below i4);replace hv:=Zb (hv.out.below i4);have k5:=Gn m4 i4;clear m4 i4;replace g9:=Zb g9;have n0:=Zb (MXL.row1 g9.out hv.out);go_wp2_with fail;(try rw[n2]);(try rw[n7]);clear n7;replace n2:=Zb n2;refine(Zjy (some ⟨g7,0,none⟩) 1 1 [⟨V,nv,cv,es⟩] V9 n0.out).mono ?_;rintro e l7 ⟨b,rfl,y,e4⟩;replace h:=Zb (h.out.below y);replace hv:=Zb (hv.out.below y);replace g9:=Gm y g9;replace n0:=Zb (n0.out.below y);have d0:=Gn k5 y;clear k5 y n0 g9;cases b with
  | true =>
   go_wp2_with fail;go_ret;exact⟨rfl,d0.out⟩
  | false =>
   have o2:Hid (∀ e ∈ es,e.few<=4 \/ 64<e.few):=Zb (λe he=>(e4 rfl).2.2 ⟨V,nv,cv,es⟩ List.mem_cons_self e he);clear e4;by_cases n1:nv=n
   case neg =>
    have t2:((nv:Int) != (n:Int))=true:=by simp;omega
    have v0:decide ((nv:Int)=(n:Int))=false:=Gu Gk;have υ8:decide (nv=n)=false:=Gu n1;replace n1:=Zb n1;go_wp2_with fail;go_ret;exact⟨rfl,d0.out⟩
   subst n1;go_wp2_with fail
   go_loopg [10,11,12] nv (λf zv tv jv wr=>∃ j:Nat,j+f=nv/\jv=.int .i64 j/\zv=.bool (zB es j)/\Hid (Below l7.heap.size l7 wr)/\OwnF 41 wr l7.heap.size tv ((es.map λe=>e.q*2).take j)/\(∀ e ∈ es.take j,e.ok=true/\e.few<=64))
   case atStart=>exact⟨0,by omega,rfl,rfl,Zb (Qb _ _),OwnF.nil _ _ _,λe he=>(by simp at he)⟩
   case round =>
    obtain⟨wl,rfl⟩:=Gy wr;obtain⟨j,w0,rfl,rfl,e9,hO,i6⟩:=hrel;replace hO:=Zb hO;replace i6:=Zb i6;cases gk with
    | succ f' =>
     obtain rfl:f'=nv-(j+1):=Gk;have fw:j<nv:=Gk;have t3:decide ((j:Int)<(nv:Int))=true:=Gv Gk;have bj:(j:Int)<(nv:Int):=Gk;obtain⟨gv,ov,e,rfl,he,υ6,d6,d4⟩:=(hv.out.below e9.out).at_ fw;obtain⟨x0,x1,x2,x3⟩:=υ6;obtain⟨en,eA,ek,ec,la,em,eB,ej,ed,lb⟩:=e;have dI:=Zb he;replace he:=Zb he;have s0:ek<=maxLen:=Qj d6.2.1 d6.2.2.1;have t0:ej<=maxLen:=Qj d4.2.1 d4.2.2.1;unfold maxLen at s0 t0;obtain⟨o,ho⟩:=Gz (okF en la em lb);have o3:=Zb (zB_succ he.out);obtain⟨zb,i7⟩:=Gz (zB es j);rw[i7]at o3 ⊢;replace i7:=Zb i7;replace d6:=Zb d6;replace d4:=Zb d4;go_wp2_with fail;refine(Zlp en em eA eB ek ec ej ed la lb wl d6.out d4.out o ho).mono ?_;rintro e y1 ⟨rfl,f6⟩;replace d6:=Zb (d6.out.below f6);replace d4:=Zb (d4.out.below f6);replace x0:=Za f6 x0;replace x1:=Za f6 x1;replace x2:=Za f6 x2;replace x3:=Za f6 x3;have m7:=Gn e9 f6;replace hO:=Zb (hO.out.kept f6);clear f6 e9;cases o with
     | false =>
      go_wp2_with fail;go_ret;exact⟨rfl,Gs d0.out m7.out⟩
     | true =>
      go_wp2_with fail;refine(Zlz en em eA eB ek ec ej ed y1 (by unfold maxLen;omega) (by unfold maxLen;omega)).mono ?_;rintro e y2 ⟨rfl,f7⟩;replace d6:=Zb (d6.out.below f7);replace d4:=Zb (d4.out.below f7);replace x0:=Za f7 x0;replace x1:=Za f7 x1;replace x2:=Za f7 x2;replace x3:=Za f7 x3;have e5:=Gn m7 f7;replace hO:=Zb (hO.out.kept f7);clear f7 m7;by_cases j2:64<max ek ej
      case pos =>
       have t4:decide ((64:Int)<((max ek ej:Nat):Int))=true:=Gv Gk;replace j2:=Zb j2;go_wp2_with fail;go_ret;exact⟨rfl,Gs d0.out e5.out⟩
      have t4:decide ((64:Int)<((max ek ej:Nat):Int))=false:=Gu Gk;replace j2:=Zb j2;have U:=Zb (Zk6 (w:=y2) d6.out d4.out ho);have i0:Hid (Sm (qOf en la lb)):=Zb (fx_sm64 (w:=y2) (e:=⟨en,eA,ek,ec,la,em,eB,ej,ed,lb⟩) ⟨d6.out,d4.out⟩ ho (Qn j2.out));obtain⟨zc,i9⟩:∃ b,(zb && decide (ek=0))=b:=⟨_,rfl⟩;have q3:Hid (zB es (j+1)=zc):=Zb (o3.out.trans i9)
      have n4:Hid (∀ e ∈ es.take (j+1),e.ok=true/\e.few<=64):=Zb (λe he'=>by
       rw[Qg,he.out]at he';rcases List.mem_append.1 he' with h1|h1;exact i6.out e h1;simp at h1;subst h1;exact⟨ho,Qn j2.out⟩)
      have m3:Hid ((es.map λe=>e.q*2).take j ++ [qOf en la lb*2]=(es.map λe=>e.q*2).take (j+1)):=Zb (by
       rw[Qg,Qd,he.out];rfl)
      have m5:Hid (((es.map λe=>e.q*2).take j).length+1<=1000):=Zb (by
       have h1:=p4.out hE.out;rw[Qo];omega)
      clear o3 i6 he d6 d4 ho;have r5:=Zb (hv.out.below e5.out);cases zb with
      | false =>
       obtain rfl:zc=false:=by rw[<- i9];rfl
       clear i9 r5;go_wp2_with fail;have c8:Hid (∀ wx,Below y2.heap.size y2 wx->wx.cell? ⟨gv,ov+j*4,none⟩=some (.bool en)/\wx.cell? ⟨gv,ov+j*4+1,none⟩=some (.slice eA ek ec)/\wx.cell? ⟨gv,ov+j*4+2,none⟩=some (.bool em)/\wx.cell? ⟨gv,ov+j*4+3,none⟩=some (.slice eB ej ed)):=Zb (λwx u=>⟨Za u x0,Za u x1,Za u x2,Za u x3⟩);have d7:Below y2.heap.size y2 y2.drew:=Zf (Qb _ _) 1;refine wp_heldS [] hmx c8 d7 (λhxs=>?_);refine Zj9 5 [0,1,2,3,4] rfl Gi (c8.out _ d7) ?_
       iterate 5 (refine tkA ?_;try simp only[Qa,Zhb,Zgo,Zg6,Gr,Gq,Gp])
       refine tk0 ?_;refine wpAnyL_o 5 λK hK=>?_
       (try rw[Gx Gi]);go_simp;refine(Zep 2 1 y2.drew Gj Gj Gj Gj).mono ?_;rintro e a1 ⟨y,pn,pA,pk,pc,pm,pB,pj,pd,rfl,hp⟩;rw[show Qf 2 1=2 by decide +kernel]at hp;have d8:=Gs d7 y;replace hp:=Zb hp;refine hK.out _ _ (λ_=>c8.out _ d8) ?_;clear hK K y d7 hxs
       try simp only[Qa,Zhb,Zgo,Zg6,Gr,Gq,Gp]
       refine wpAnyL_o 6 λK hK=>?_
       (try rw[Gx Gi]);go_simp;refine(Zh0 en eA ek ec em eB ej ed pn pA pk pc pm pB pj pd (qOf en la lb) 2 a1 (U.out.below d8) hp.out i0.out ⟨by decide +kernel,by decide +kernel⟩).mono ?_;rintro e a2 ⟨y,un,uA,uk,uc,um,uB,uj,ud,rfl,hu⟩;have f3:=Gs d8 y;refine hK.out _ _ (λ_=>c8.out _ f3) ?_;clear hK K y d8 hp
       try simp only[Qa,Zhb,Zgo,Zg6,Gr,Gq,Gp]
       obtain⟨Y1,f0⟩:=Gz (a2.alloc (.cells #[.bool un,.slice uA uk uc,.bool um,.slice uB uj ud] 41));obtain⟨ga,g4⟩:=Gz a2.heap.size;have h5:Below a2.heap.size a2 Y1:=by rw[<- f0];exact(Qb _ _).alloc (Ql _) _
       have k2:Blk Y1 ga 41 #[.bool un,.slice uA uk uc,.bool um,.slice uB uj ud]:=by rw[<- f0,<- g4];exact Blk.new _ _ _
       have f4:=Gs f3 h5;replace hu:=hu.below h5;refine wpAnyL_o 7 λK hK=>?_;go_simp;(try rw[f0]);(try rw[g4]);refine hK.out _ _ (λ_=>c8.out _ f4) ?_;clear hK K f0 g4 h5 f3
       try simp only[Qa,Zhb,Zgo,Zg6,Gr,Gq,Gp]
       have g5:=hO.out.kept f4;have c6:=Gs e5.out f4;refine wpAnyL_o 8 λK hK=>?_;rw[Gx Ge];refine Za4 _ (.tmp 76) (.tmp 83) 35 rfl l7.heap.size 41 iF Tryz.underlying35 hi r1 r6 q6 _ _ rfl g5 _ (some ⟨ga,0,none⟩) 1 1 [⟨un,uA,uk,uc,um,uB,uj,ud,qOf en la lb*2⟩] rfl (Zb7 _ k2) rfl (by intro e he;rw[Qk]at he;subst he;exact hu) m5.out c6.size ?_;intro v7 w7 e0 l6 p0 o7;have aO:=Zb (c6.grown l6 c6.size (λk hk=>g5.row_ge k hk));simp only[List.map_cons,List.map_nil]at e0;rw[m3.out]at e0
       have g8:w7.cell? ⟨gv,ov+j*4,none⟩=some (.bool en)/\w7.cell? ⟨gv,ov+j*4+1,none⟩=some (.slice eA ek ec)/\w7.cell? ⟨gv,ov+j*4+2,none⟩=some (.bool em)/\w7.cell? ⟨gv,ov+j*4+3,none⟩=some (.slice eB ej ed):=by
        exact Ij
       refine hK.out _ _ (λ_=>g8) ?_;clear hK K
       try simp only[Qa,Zhb,Zgo,Zg6,Gr,Gq,Gp]
       refine Zgp 1 [9] rfl Gi g8 ?_
       (refine tkA ?_;try simp only[Qa,Zhb,Zgo,Zg6,Gr,Gq,Gp])
       refine tk0 ?_;refine wpAnyL_fin ?_;clear g8 g5 k2 hu c6 f4 l6 p0 o7 c8 U i0 m3 m5 hO;replace e0:=Zb e0;go_wp2_with fail
       go_roundg (nv-(j+1))
       case measure=>omega
       case rel=>exact⟨j+1,by omega,by go_num,by rw[q3.out],aO,e0.out,n4.out⟩
      | true =>
       have r7:((ek:Int) == 0)=zc:=by
        rw[<- i9,Bool.true_and];by_cases h0:ek=0 <;> simp[h0]
       replace i9:=Zb i9;clear r5;go_wp2_with fail;have c8:Hid (∀ wx,Below y2.heap.size y2 wx->wx.cell? ⟨gv,ov+j*4,none⟩=some (.bool en)/\wx.cell? ⟨gv,ov+j*4+1,none⟩=some (.slice eA ek ec)/\wx.cell? ⟨gv,ov+j*4+2,none⟩=some (.bool em)/\wx.cell? ⟨gv,ov+j*4+3,none⟩=some (.slice eB ej ed)):=Zb (λwx u=>⟨Za u x0,Za u x1,Za u x2,Za u x3⟩);have d7:Below y2.heap.size y2 y2.drew:=Zf (Qb _ _) 1;refine wp_heldS [] hmx c8 d7 (λhxs=>?_);refine Zj9 5 [0,1,2,3,4] rfl Gi (c8.out _ d7) ?_
       iterate 5 (refine tkA ?_;try simp only[Qa,Zhb,Zgo,Zg6,Gr,Gq,Gp])
       refine tk0 ?_;refine wpAnyL_o 5 λK hK=>?_
       (try rw[Gx Gi]);go_simp;refine(Zep 2 1 y2.drew Gj Gj Gj Gj).mono ?_;rintro e a1 ⟨y,pn,pA,pk,pc,pm,pB,pj,pd,rfl,hp⟩;rw[show Qf 2 1=2 by decide +kernel]at hp;have d8:=Gs d7 y;replace hp:=Zb hp;refine hK.out _ _ (λ_=>c8.out _ d8) ?_;clear hK K y d7 hxs
       try simp only[Qa,Zhb,Zgo,Zg6,Gr,Gq,Gp]
       refine wpAnyL_o 6 λK hK=>?_
       (try rw[Gx Gi]);go_simp;refine(Zh0 en eA ek ec em eB ej ed pn pA pk pc pm pB pj pd (qOf en la lb) 2 a1 (U.out.below d8) hp.out i0.out ⟨by decide +kernel,by decide +kernel⟩).mono ?_;rintro e a2 ⟨y,un,uA,uk,uc,um,uB,uj,ud,rfl,hu⟩;have f3:=Gs d8 y;refine hK.out _ _ (λ_=>c8.out _ f3) ?_;clear hK K y d8 hp
       try simp only[Qa,Zhb,Zgo,Zg6,Gr,Gq,Gp]
       obtain⟨Y1,f0⟩:=Gz (a2.alloc (.cells #[.bool un,.slice uA uk uc,.bool um,.slice uB uj ud] 41));obtain⟨ga,g4⟩:=Gz a2.heap.size;have h5:Below a2.heap.size a2 Y1:=by rw[<- f0];exact(Qb _ _).alloc (Ql _) _
       have k2:Blk Y1 ga 41 #[.bool un,.slice uA uk uc,.bool um,.slice uB uj ud]:=by rw[<- f0,<- g4];exact Blk.new _ _ _
       have f4:=Gs f3 h5;replace hu:=hu.below h5;refine wpAnyL_o 7 λK hK=>?_;go_simp;(try rw[f0]);(try rw[g4]);refine hK.out _ _ (λ_=>c8.out _ f4) ?_;clear hK K f0 g4 h5 f3
       try simp only[Qa,Zhb,Zgo,Zg6,Gr,Gq,Gp]
       have g5:=hO.out.kept f4;have c6:=Gs e5.out f4;refine wpAnyL_o 8 λK hK=>?_;rw[Gx Ge];refine Za4 _ (.tmp 76) (.tmp 83) 35 rfl l7.heap.size 41 iF Tryz.underlying35 hi r1 r6 q6 _ _ rfl g5 _ (some ⟨ga,0,none⟩) 1 1 [⟨un,uA,uk,uc,um,uB,uj,ud,qOf en la lb*2⟩] rfl (Zb7 _ k2) rfl (by intro e he;rw[Qk]at he;subst he;exact hu) m5.out c6.size ?_;intro v7 w7 e0 l6 p0 o7;have aO:=Zb (c6.grown l6 c6.size (λk hk=>g5.row_ge k hk));simp only[List.map_cons,List.map_nil]at e0;rw[m3.out]at e0
       have g8:w7.cell? ⟨gv,ov+j*4,none⟩=some (.bool en)/\w7.cell? ⟨gv,ov+j*4+1,none⟩=some (.slice eA ek ec)/\w7.cell? ⟨gv,ov+j*4+2,none⟩=some (.bool em)/\w7.cell? ⟨gv,ov+j*4+3,none⟩=some (.slice eB ej ed):=by
        exact Ij
       refine hK.out _ _ (λ_=>g8) ?_;clear hK K
       try simp only[Qa,Zhb,Zgo,Zg6,Gr,Gq,Gp]
       refine Zgp 1 [9] rfl Gi g8 ?_
       (refine tkA ?_;try simp only[Qa,Zhb,Zgo,Zg6,Gr,Gq,Gp])
       refine tk0 ?_;refine wpAnyL_fin ?_;clear g8 g5 k2 hu c6 f4 l6 p0 o7 c8 U i0 m3 m5 hO;replace e0:=Zb e0;go_wp2_with fail
       go_roundg (nv-(j+1))
       case measure=>omega
       case rel=>exact⟨j+1,by omega,by go_num,by rw[q3.out,<- r7],aO,e0.out,n4.out⟩
    | zero =>
     obtain rfl:j=nv:=Gk;have t3:decide ((j:Int)<(j:Int))=false:=Gh;have o4:=e9.out.size;obtain⟨T,tc,rfl,hT⟩:=hO.out.fl;have j9:=s5.out;have o6:((es.map λe=>e.q*2).take j).length=j:=by rw[Qo,Qp];omega
     have r2:(es.map λe=>e.q*2).take j=es.map λe=>e.q*2:=Qe (by rw[Qp];omega);rw[o6]at hT;rw[o6];rw[r2]at hT
     have g2:Hid (∀ e ∈ es,e.ok=true/\e.few<=4):=Zb (λe he=>by
      have h1:=i6.out e (by rw[Qe Gk];exact he);rcases o2.out e he with h2|h2;exact⟨h1.1,h2⟩;omega)
     obtain⟨et,c7,p3,q0⟩:=hT.fxs;obtain⟨n8,q7⟩:=Zsd hv.out g2.out c7.1 p3 q0;have o0:=p4.out hE.out;have k6:=m6.out
     have l3:Zci es=true:=by
      unfold Zci;rw[Qh];intro e he;unfold FX.fine64;rw[(g2.out e he).1,Bool.and_true];exact Gv (Qj (g2.out e he).2 Gj)
     have o5:=Zb (Zj1 hE.out ⟨j9.trans k6.symm,l3⟩);have r3:=Zb (Zj1 hE.out ⟨c7.1.trans k6.symm,n8⟩);have p1:=Zb (Ztq h.out hv.out hf.out o0 o2.out o5.out);have q4:=Zb (Z0f h.out hf.out o0 hE.out q7);have q8:=Zb (Zri (rs:=rs) p3);have o1:=Zb (Zq3 (es:=es) hE.out);have o8:=Zb (Zzn p1.out)
     have hZ:Hid (decide (Zfb rs es=0)=zB es j):=Zb (by
      have h1:=zB_all hv.out (λe he=>(g2.out e he).1);have h2:=Zvh hE.out (j9.trans k6.symm);cases hb:zB es j with
      | true=>exact Gv (h2.2 (h1.1 hb))
      | false=>exact Gu (λh3=>by rw[h1.2 (h2.1 h3)]at hb;cases hb))
     obtain⟨zb,i7⟩:=Gz (zB es j);rw[i7]at hZ ⊢;replace c7:=Zb c7;have s1:=c7.out.2.2.1;have υ9:=c7.out.2.1;unfold maxLen at s1;obtain⟨dV,f9⟩:=Gz (Zfb rs es);replace f9:=Zb f9;clear i6 o2 n8 q7 p3 q0 hT r2 o6 hO g2 l3 i7;have p2:=Zb (Gs d0.out e9.out);replace h:=Zb (h.out.below e9.out);replace hv:=Zb (hv.out.below e9.out);clear e9 o4;go_wp2_with fail;refine(Zfw A V j c j cv rs es wl h.out l9.out hv.out (λ_=>p1.out)).mono ?_;rintro e r4 ⟨y,hP⟩;replace h:=Zb (h.out.below y);replace hv:=Zb (hv.out.below y);replace c7:=Zb (c7.out.below y);have l5:=Gn p2 y;clear p2 y;rcases hP with ⟨-,dn,dA,dk,dc,dm,dB,dj,dd,rfl,b5⟩|⟨h9,-⟩
     case inr=>exact absurd o5.out h9
     rw[f9.out]at b5;obtain rfl:dn=false:=by rw[b5.1.1];rw[f9.out]at o1;exact Gu (by have:=Rat.num_nonneg.2 o1.out;omega)
     have m9:((dk:Int) == 0)=zb:=by
      rw[f9.out]at hZ;rw[<- hZ.out];by_cases h0:dk=0;rw[Gv ((Zqr b5).1 h0)];simp[h0];rw[Gu (λe=>h0 ((Zqr b5).2 e))];simp[h0]
     replace m9:=Zb m9;clear hv;replace b5:=Zb b5;obtain⟨g1,i3⟩:=Gz r4.heap.size;obtain⟨s7,n9,b7,f8⟩:=Zak (w:=r4) 41 #[.bool false,.slice dA dk dc,.bool dm,.slice dB dj dd];rw[i3]at b7;replace h:=Zb (h.out.below f8);replace c7:=Zb (c7.out.below f8);replace b5:=Zb (b5.out.below f8);have l4:=Gn l5 f8;clear l5 f8;replace b7:=Zb b7;go_wp2_with fail;(try rw[i3]);(try rw[n9]);clear n9;replace i3:=Zb i3;refine(Zfw A T j c j tc rs et s7 h.out l9.out c7.out (λ_=>q4.out)).mono ?_;rintro e q2 ⟨y,hP⟩;replace h:=Zb (h.out.below y);replace c7:=Zb (c7.out.below y);replace b5:=Zb (b5.out.below y);replace b7:=Gm y b7;have m1:=Gn l4 y;clear l4 y;rcases hP with ⟨-,tn,tA,tk,tc,tm,tB,tj,td,rfl,b9⟩|⟨h9,-⟩
     case inr=>exact absurd r3.out h9
     rw[q8.out,f9.out]at b9;rw[f9.out]at o8;clear o5 r3 p1 q4 q8 o1 hZ f9 c7;replace b9:=Zb b9;obtain⟨g0,i1⟩:=Gz q2.heap.size;obtain⟨d5,n6,b8,e7⟩:=Zak (w:=q2) 41 #[.bool tn,.slice tA tk tc,.bool tm,.slice tB tj td];rw[i1]at b8;replace h:=Zb (h.out.below e7);replace b5:=Zb (b5.out.below e7);replace b7:=Gm e7 b7;replace b9:=Zb (b9.out.below e7);have j5:=Gn m1 e7;clear m1 e7;replace b8:=Zb b8;go_wp2_with fail;(try rw[i1]);(try rw[n6]);clear n6;replace i1:=Zb i1;have b1:d5.cell? ⟨g1,0,none⟩=some (.bool false):=b7.out.cell 0;have b3:d5.cell? ⟨g1,1,none⟩=some (.slice dA dk dc):=b7.out.cell 1;have a7:d5.cell? ⟨g1,2,none⟩=some (.bool dm):=b7.out.cell 2;have a9:d5.cell? ⟨g1,3,none⟩=some (.slice dB dj dd):=b7.out.cell 3;have a0:d5.cell? ⟨g0,0,none⟩=some (.bool tn):=b8.out.cell 0;have b0:d5.cell? ⟨g0,1,none⟩=some (.slice tA tk tc):=b8.out.cell 1;have b2:d5.cell? ⟨g0,2,none⟩=some (.bool tm):=b8.out.cell 2;have a8:d5.cell? ⟨g0,3,none⟩=some (.slice tB tj td):=b8.out.cell 3;have b6:Below d5.heap.size d5 d5.drew:=Zf (Qb _ _) 1;replace h:=Zb (h.out.below b6);replace b5:=Zb (b5.out.below b6);replace b7:=Gm b6 b7;replace b9:=Zb (b9.out.below b6);replace b8:=Gm b6 b8;have m2:=Gn j5 b6;clear j5
     replace b1:=Za b6 b1;replace b3:=Za b6 b3;replace a7:=Za b6 a7;replace a9:=Za b6 a9;replace a0:=Za b6 a0;replace b0:=Za b6 b0;replace b2:=Za b6 b2;replace a8:=Za b6 a8;clear b6;refine Zy [] (λwx=>(wx.cell? ⟨g1,0,none⟩=some (.bool false))/\(wx.cell? ⟨g1,1,none⟩=some (.slice dA dk dc))/\(wx.cell? ⟨g1,2,none⟩=some (.bool dm))/\(wx.cell? ⟨g1,3,none⟩=some (.slice dB dj dd))/\(wx.cell? ⟨g0,0,none⟩=some (.bool tn))/\(wx.cell? ⟨g0,1,none⟩=some (.slice tA tk tc))/\(wx.cell? ⟨g0,2,none⟩=some (.bool tm))/\(wx.cell? ⟨g0,3,none⟩=some (.slice tB tj td))) hmx ⟨b1,b3,a7,a9,a0,b0,b2,a8⟩ (λ_=>?_);refine Zj9 8 [0,1,2,3,4,5,6,7] rfl Gi ⟨b1,b3,a7,a9,a0,b0,b2,a8⟩ ?_
     iterate 8 (refine tkA ?_;try simp only[Qa,Zhb,Zgo,Zg6,Gr,Gq,Gp])
     refine tk0 ?_;refine wpAnyL_o 8 λK hK=>?_
     (try rw[Gx Gi]);go_simp;refine(Zej false dm dA dB dk dc dj dd _ d5.drew b5.out).mono ?_;rintro e υ0 ⟨rfl,u⟩;replace h:=Zb (h.out.below u);replace b5:=Zb (b5.out.below u);replace b7:=Gm u b7;replace b9:=Zb (b9.out.below u);replace b8:=Gm u b8;have j8:=Gn m2 u;clear m2;replace b1:=Za u b1;replace b3:=Za u b3;replace a7:=Za u a7;replace a9:=Za u a9;replace a0:=Za u a0;replace b0:=Za u b0;replace b2:=Za u b2;replace a8:=Za u a8;clear u;refine hK.out _ _ (λ_=>⟨b1,b3,a7,a9,a0,b0,b2,a8⟩) ?_;clear hK K
     try simp only[Qa,Zhb,Zgo,Zg6,Gr,Gq,Gp]
     refine Zj9 14 [9,10,11,12,13,14,15,16,17,18,19,20,21,22] rfl Gi ⟨b1,b3,a7,a9,a0,b0,b2,a8⟩ ?_
     iterate 14 (refine tkA ?_;try simp only[Qa,Zhb,Zgo,Zg6,Gr,Gq,Gp])
     refine tk0 ?_;refine Zd (i:=23) (v:=.bool false) rfl Gi Gi Gi Gi Gi (Or.inl ⟨by kernel_rfl,?hyt23⟩) ⟨b1,b3,a7,a9,a0,b0,b2,a8⟩ ?rt23
     case hyt23=>(intro W2 hSw;(try dsimp only at hSw);go_simp;rw[m9.out])
     try simp only[Qa,Zhb,Zgo,Zg6,Gr,Gq,Gp]
     refine Zj9 4 [24,25,26,27] rfl Gi ⟨b1,b3,a7,a9,a0,b0,b2,a8⟩ ?_
     iterate 4 (refine tkA ?_;try simp only[Qa,Zhb,Zgo,Zg6,Gr,Gq,Gp])
     refine tk0 ?_;refine wpAnyL_o 28 λK hK=>?_
     (try rw[Gx Gi]);go_simp;refine(Zep 4 1 υ0 Gj Gj Gj Gj).mono ?_;rintro e s6 ⟨u,fn,fA,fk,fc,fm,fB,fj,fd,rfl,f5⟩;replace h:=Zb (h.out.below u);replace b5:=Zb (b5.out.below u);replace b7:=Gm u b7;replace b9:=Zb (b9.out.below u);replace b8:=Gm u b8;have l1:=Gn j8 u;clear j8;replace b1:=Za u b1;replace b3:=Za u b3;replace a7:=Za u a7;replace a9:=Za u a9;replace a0:=Za u a0;replace b0:=Za u b0;replace b2:=Za u b2;replace a8:=Za u a8;clear u;rw[show Qf 4 1=4 by decide +kernel]at f5;replace f5:=Zb f5;refine hK.out _ _ (λ_=>⟨b1,b3,a7,a9,a0,b0,b2,a8⟩) ?_;clear hK K
     try simp only[Qa,Zhb,Zgo,Zg6,Gr,Gq,Gp]
     refine wpAnyL_o 29 λK hK=>?_
     (try rw[Gx Gi]);go_simp;refine(Zh0 false dA dk dc dm dB dj dd fn fA fk fc fm fB fj fd dV 4 s6 b5.out f5.out o8.out ⟨by decide +kernel,by decide +kernel⟩).mono ?_;rintro e t7 ⟨u,un,uA,uk,uc,um,uB,uj,ud,rfl,j1⟩;replace h:=Zb (h.out.below u);replace b5:=Zb (b5.out.below u);replace b7:=Gm u b7;replace b9:=Zb (b9.out.below u);replace b8:=Gm u b8;replace f5:=Zb (f5.out.below u);have k4:=Gn l1 u;clear l1;replace b1:=Za u b1;replace b3:=Za u b3;replace a7:=Za u a7;replace a9:=Za u a9;replace a0:=Za u a0;replace b0:=Za u b0;replace b2:=Za u b2;replace a8:=Za u a8;clear u;replace j1:=Zb j1;refine hK.out _ _ (λ_=>⟨b1,b3,a7,a9,a0,b0,b2,a8⟩) ?_;clear hK K
     try simp only[Qa,Zhb,Zgo,Zg6,Gr,Gq,Gp]
     refine wpAnyL_o 30 λK hK=>?_
     (try rw[Gx Gi]);go_simp;refine(Zjp tn tm un um tA tB uA uB tk tc tj td uk uc uj ud _ _ t7 b9.out j1.out true (Gv rfl)).mono ?_;rintro e t8 ⟨rfl,u⟩;replace h:=Zb (h.out.below u);replace b5:=Zb (b5.out.below u);replace b7:=Gm u b7;replace b9:=Zb (b9.out.below u);replace b8:=Gm u b8;replace f5:=Zb (f5.out.below u);replace j1:=Zb (j1.out.below u);have l2:=Gn k4 u;clear k4;replace b1:=Za u b1;replace b3:=Za u b3;replace a7:=Za u a7;replace a9:=Za u a9;replace a0:=Za u a0;replace b0:=Za u b0;replace b2:=Za u b2;replace a8:=Za u a8;clear u;refine hK.out _ _ (λ_=>⟨b1,b3,a7,a9,a0,b0,b2,a8⟩) ?_;clear hK K
     try simp only[Qa,Zhb,Zgo,Zg6,Gr,Gq,Gp]
     refine Zj9 2 [31,32] rfl Gi ⟨b1,b3,a7,a9,a0,b0,b2,a8⟩ ?_
     iterate 2 (refine tkA ?_;try simp only[Qa,Zhb,Zgo,Zg6,Gr,Gq,Gp])
     refine tk0 ?_;refine wpAnyL_fin ?_;clear b1 b3 a7 a9 a0 b0 b2 a8 f5 j1 b9 b5 b7 b8 m9 o8;obtain⟨F,j0⟩:=Gz (corE rs i k);replace j0:=Zb j0;have r0:Hid (∀ a b,SmN 5 5 (Zh (qM rs) a b)):=Zb (Zvz h.out hf.out hE.out);go_wp2_with fail;refine(Zw0 A j c rs i k t8 h.out l9.out hi1 hi2 hk1 hk2 (λ_=>r0.out)).mono ?_;rintro e j3 ⟨y,hP⟩;replace h:=Zb (h.out.below y);have e8:=Gn l2 y;clear l2 y;rw[j0.out]at hP;by_cases d9:F=0
     case neg =>
      obtain rfl:e=_:=(hP.resolve_left (λh9=>d9 h9.1)).2;have p8:¬ (0<=i/\i<(rs.length:Int)/\0<=k/\k<(rs.length:Int)):=λh9=>d9 (by rw[<- j0.out];exact Zv5 hE.out h9);rw[m6.out]at p8;clear hP;have t5:(F != 0)=true:=by simpa using d9
      have v9:decide (F=0)=false:=Gu d9;replace d9:=Zb d9;obtain⟨v6,cG⟩:=Gz j3.heap.size;obtain⟨w4,eI,m8,k9⟩:=Zak (w:=j3) 41 #[.bool false,.slice none 0 0,.bool false,.slice none 0 0];rw[cG]at m8;obtain⟨s9,eK,-,n5,-⟩:=Zr2 false none 0 0 false none 0 0 m8;have g6:Below j3.heap.size j3 s9:=k9.trans (n5.to_below (λk e=>by rw[e,<- cG];exact Ql _) k9.size);obtain⟨jh,jj,jk,jl,jm,jn,jo,jp⟩:=m8.four;replace h:=Zb (h.out.below g6);have fP:=Gn e8 g6;clear e8 k9 g6 n5 m8;have t9:i<0 \/ (¬ i<0/\k<0) \/ (¬ i<0/\¬ k<0/\(j:Int)<=i) \/ (¬ i<0/\¬ k<0/\¬ (j:Int)<=i/\(j:Int)<=k):=Gk;clear p8;rcases t9 with h1|⟨h1,h2⟩|⟨h1,h2,h3⟩|⟨h1,h2,h3,h4⟩
      ·skip
       have υ1:decide (i<0)=true:=Gv h1;replace h1:=Zb h1;exact ET
      ·skip
       have υ1:decide (i<0)=false:=Gu h1;replace h1:=Zb h1;have υ2:decide (k<0)=true:=Gv h2;replace h2:=Zb h2;exact ET
      ·skip
       have υ1:decide (i<0)=false:=Gu h1;replace h1:=Zb h1;have υ2:decide (k<0)=false:=Gu h2;replace h2:=Zb h2;have υ3:decide ((j:Int)<=i)=true:=Gv h3;replace h3:=Zb h3;exact ET
      skip
      have υ1:decide (i<0)=false:=Gu h1;replace h1:=Zb h1;have υ2:decide (k<0)=false:=Gu h2;replace h2:=Zb h2;have υ3:decide ((j:Int)<=i)=false:=Gu h3;replace h3:=Zb h3;have υ4:decide ((j:Int)<=k)=true:=Gv h4;replace h4:=Zb h4;exact ET
     subst d9;obtain⟨-,rn,rA,rk,rc,rm,rB,rj,rd,rfl,U⟩:=hP.resolve_right (λh9=>h9.1 rfl);have p5:0<=i/\i<(rs.length:Int)/\0<=k/\k<(rs.length:Int):=Classical.byContradiction λh9=>(by have h8:=j0.out;rw[Znn hE.out h9]at h8;exact absurd h8 Gj);obtain⟨c1,c2,c3⟩:=Zvq h.out hf.out hE.out p5;have p6:=Zb (corV_sm h.out hf.out hE.out p5);obtain⟨rV,p7⟩:=Gz (Zsf rs i k);rw[p7]at U c1 c2 c3 p6;obtain rfl:rn=false:=by rw[U.1.1];exact Gu (by have:=Rat.num_nonneg.2 c1;omega)
     have q1:Hid (decide (rV<=1)=true):=Zb (Gv c2);replace c3:=Zb c3;clear hP c1 c2 p7 p5 j0 r0 l9 hf p4 h;replace U:=Zb U;obtain⟨c4,i2⟩:=Gz j3.heap.size;obtain⟨c5,n3,b4,m0⟩:=Zak (w:=j3) 41 #[.bool false,.slice rA rk rc,.bool rm,.slice rB rj rd];rw[i2]at b4;replace U:=Zb (U.out.below m0);have e6:=Gn e8 m0;clear e8 m0;replace b4:=Zb b4;go_wp2_with fail;(try rw[i2]);(try rw[n3]);clear n3;replace i2:=Zb i2;by_cases k7:i=k
     case neg =>
      have t6:(i != k)=true:=by simpa using k7
      have v3:decide (i=k)=false:=Gu k7;replace k7:=Zb k7;have a6:c5.cell? ⟨c4,0,none⟩=some (.bool false):=b4.out.cell 0;have a3:c5.cell? ⟨c4,1,none⟩=some (.slice rA rk rc):=b4.out.cell 1;have a4:c5.cell? ⟨c4,2,none⟩=some (.bool rm):=b4.out.cell 2;have a5:c5.cell? ⟨c4,3,none⟩=some (.slice rB rj rd):=b4.out.cell 3;have d3:Below c5.heap.size c5 c5.drew:=Zf (Qb _ _) 1;replace U:=Zb (U.out.below d3);replace b4:=Gm d3 b4;have k0:=Gn e6 d3;clear e6;replace a6:=Za d3 a6;replace a3:=Za d3 a3;replace a4:=Za d3 a4;replace a5:=Za d3 a5;clear d3;refine Zy [] (λwx=>(wx.cell? ⟨c4,0,none⟩=some (.bool false))/\(wx.cell? ⟨c4,1,none⟩=some (.slice rA rk rc))/\(wx.cell? ⟨c4,2,none⟩=some (.bool rm))/\(wx.cell? ⟨c4,3,none⟩=some (.slice rB rj rd))) hmx ⟨a6,a3,a4,a5⟩ (λ_=>?_);refine Zj9 3 [0,1,2] rfl Gi ⟨a6,a3,a4,a5⟩ ?_
      iterate 3 (refine tkA ?_;try simp only[Qa,Zhb,Zgo,Zg6,Gr,Gq,Gp])
      refine tk0 ?_;refine wpAnyL_o 3 λK hK=>?_
      (try rw[Gx Gi]);go_simp;refine(Zej false rm rA rB rk rc rj rd _ c5.drew U.out).mono ?_;rintro e υ5 ⟨rfl,u⟩;replace U:=Zb (U.out.below u);replace b4:=Gm u b4;have j6:=Gn k0 u;clear k0;replace a6:=Za u a6;replace a3:=Za u a3;replace a4:=Za u a4;replace a5:=Za u a5;clear u;refine hK.out _ _ (λ_=>⟨a6,a3,a4,a5⟩) ?_;clear hK K
      try simp only[Qa,Zhb,Zgo,Zg6,Gr,Gq,Gp]
      refine Zj9 10 [4,5,6,7,8,9,10,11,12,13] rfl Gi ⟨a6,a3,a4,a5⟩ ?_
      iterate 10 (refine tkA ?_;try simp only[Qa,Zhb,Zgo,Zg6,Gr,Gq,Gp])
      refine tk0 ?_;refine wpAnyL_o 14 λK hK=>?_
      (try rw[Gx Gi]);go_simp;refine(Zep 1 1 υ5 Gj Gj Gj Gj).mono ?_;rintro e s8 ⟨u,an,aA,ak,ac,am,aB,aj,ad,rfl,c0⟩;replace U:=Zb (U.out.below u);replace b4:=Gm u b4;have k8:=Gn j6 u;clear j6;replace a6:=Za u a6;replace a3:=Za u a3;replace a4:=Za u a4;replace a5:=Za u a5;clear u;rw[show Qf 1 1=1 by decide +kernel]at c0;replace c0:=Zb c0;refine hK.out _ _ (λ_=>⟨a6,a3,a4,a5⟩) ?_;clear hK K
      try simp only[Qa,Zhb,Zgo,Zg6,Gr,Gq,Gp]
      refine wpAnyL_o 15 λK hK=>?_
      (try rw[Gx Gi]);go_simp;refine(Zmd false rA rk rc rm rB rj rd an aA ak ac am aB aj ad rV 1 s8 U.out c0.out p6.out ⟨by decide +kernel,by decide +kernel⟩).mono ?_;rintro e w2 ⟨rfl,u⟩;replace U:=Zb (U.out.below u);replace b4:=Gm u b4;replace c0:=Zb (c0.out.below u);have q9:=Gn k8 u;clear k8;replace a6:=Za u a6;replace a3:=Za u a3;replace a4:=Za u a4;replace a5:=Za u a5;clear u;rw[q1.out];refine hK.out _ _ (λ_=>⟨a6,a3,a4,a5⟩) ?_;clear hK K
      try simp only[Qa,Zhb,Zgo,Zg6,Gr,Gq,Gp]
      refine Zj9 6 [16,17,18,19,20,21] rfl Gi ⟨a6,a3,a4,a5⟩ ?_
      iterate 6 (refine tkA ?_;try simp only[Qa,Zhb,Zgo,Zg6,Gr,Gq,Gp])
      refine tk0 ?_;refine Zd (i:=22) (v:=undef) rfl Gi Gi Gi Gi Gi (Or.inr ⟨by kernel_rfl,rfl⟩) ⟨a6,a3,a4,a5⟩ ?_
      try simp only[Qa,Zhb,Zgo,Zg6,Gr,Gq,Gp]
      refine Zd (i:=23) (v:=undef) rfl Gi Gi Gi Gi Gi (Or.inr ⟨by kernel_rfl,rfl⟩) ⟨a6,a3,a4,a5⟩ ?_
      try simp only[Qa,Zhb,Zgo,Zg6,Gr,Gq,Gp]
      refine Zd (i:=24) (v:=undef) rfl Gi Gi Gi Gi Gi (Or.inr ⟨by kernel_rfl,rfl⟩) ⟨a6,a3,a4,a5⟩ ?_
      try simp only[Qa,Zhb,Zgo,Zg6,Gr,Gq,Gp]
      refine Zj9 2 [25,26] rfl Gi ⟨a6,a3,a4,a5⟩ ?_
      iterate 2 (refine tkA ?_;try simp only[Qa,Zhb,Zgo,Zg6,Gr,Gq,Gp])
      refine tk0 ?_;refine Zgp 1 [27] rfl Gi ⟨a6,a3,a4,a5⟩ ?_
      (refine tkA ?_;try simp only[Qa,Zhb,Zgo,Zg6,Gr,Gq,Gp])
      refine tk0 ?_;refine wpAnyL_fin ?_;clear a6 a3 a4 a5;go_wp2_with fail;go_ret;exact⟨rfl,q9.out⟩
     subst k7;obtain rfl:rV=1:=c3.out rfl;have O:c5.cell? ⟨c4,0,none⟩=some (.bool false):=b4.out.cell 0;have J:c5.cell? ⟨c4,1,none⟩=some (.slice rA rk rc):=b4.out.cell 1;have C:c5.cell? ⟨c4,2,none⟩=some (.bool rm):=b4.out.cell 2;have I:c5.cell? ⟨c4,3,none⟩=some (.slice rB rj rd):=b4.out.cell 3;have c9:Below c5.heap.size c5 c5.drew:=Zf (Qb _ _) 1;replace U:=Zb (U.out.below c9);replace b4:=Gm c9 b4;have l8:=Gn e6 c9;clear e6;replace O:=Za c9 O;replace J:=Za c9 J;replace C:=Za c9 C;replace I:=Za c9 I;clear c9;refine Zy [] (λwx=>(wx.cell? ⟨c4,0,none⟩=some (.bool false))/\(wx.cell? ⟨c4,1,none⟩=some (.slice rA rk rc))/\(wx.cell? ⟨c4,2,none⟩=some (.bool rm))/\(wx.cell? ⟨c4,3,none⟩=some (.slice rB rj rd))) hmx ⟨O,J,C,I⟩ (λ_=>?_);refine Zj9 3 [0,1,2] rfl Gi ⟨O,J,C,I⟩ ?_
     iterate 3 (refine tkA ?_;try simp only[Qa,Zhb,Zgo,Zg6,Gr,Gq,Gp])
     refine tk0 ?_;refine wpAnyL_o 3 λK hK=>?_
     (try rw[Gx Gi]);go_simp;refine(Zej false rm rA rB rk rc rj rd _ c5.drew U.out).mono ?_;rintro e r8 ⟨rfl,u⟩;replace U:=Zb (U.out.below u);replace b4:=Gm u b4;have k1:=Gn l8 u;clear l8;replace O:=Za u O;replace J:=Za u J;replace C:=Za u C;replace I:=Za u I;clear u;refine hK.out _ _ (λ_=>⟨O,J,C,I⟩) ?_;clear hK K
     try simp only[Qa,Zhb,Zgo,Zg6,Gr,Gq,Gp]
     refine Zj9 10 [4,5,6,7,8,9,10,11,12,13] rfl Gi ⟨O,J,C,I⟩ ?_
     iterate 10 (refine tkA ?_;try simp only[Qa,Zhb,Zgo,Zg6,Gr,Gq,Gp])
     refine tk0 ?_;refine wpAnyL_o 14 λK hK=>?_
     (try rw[Gx Gi]);go_simp;refine(Zep 1 1 r8 Gj Gj Gj Gj).mono ?_;rintro e s2 ⟨u,an,aA,ak,ac,am,aB,aj,ad,rfl,c0⟩;replace U:=Zb (U.out.below u);replace b4:=Gm u b4;have l0:=Gn k1 u;clear k1;replace O:=Za u O;replace J:=Za u J;replace C:=Za u C;replace I:=Za u I;clear u;rw[show Qf 1 1=1 by decide +kernel]at c0;replace c0:=Zb c0;refine hK.out _ _ (λ_=>⟨O,J,C,I⟩) ?_;clear hK K
     try simp only[Qa,Zhb,Zgo,Zg6,Gr,Gq,Gp]
     refine wpAnyL_o 15 λK hK=>?_
     (try rw[Gx Gi]);go_simp;refine(Zmd false rA rk rc rm rB rj rd an aA ak ac am aB aj ad 1 1 s2 U.out c0.out p6.out ⟨by decide +kernel,by decide +kernel⟩).mono ?_;rintro e r9 ⟨rfl,u⟩;replace U:=Zb (U.out.below u);replace b4:=Gm u b4;replace c0:=Zb (c0.out.below u);have j4:=Gn l0 u;clear l0;replace O:=Za u O;replace J:=Za u J;replace C:=Za u C;replace I:=Za u I;clear u;rw[q1.out];refine hK.out _ _ (λ_=>⟨O,J,C,I⟩) ?_;clear hK K
     try simp only[Qa,Zhb,Zgo,Zg6,Gr,Gq,Gp]
     refine Zj9 7 [16,17,18,19,20,21,22] rfl Gi ⟨O,J,C,I⟩ ?_
     iterate 7 (refine tkA ?_;try simp only[Qa,Zhb,Zgo,Zg6,Gr,Gq,Gp])
     refine tk0 ?_;refine wpAnyL_o 23 λK hK=>?_
     (try rw[Gx Gi]);go_simp;refine(Zep 1 1 r9 Gj Gj Gj Gj).mono ?_;rintro e s4 ⟨u,bn,bA,bk,bc,bm,bB,bj,bd,rfl,i8⟩;replace U:=Zb (U.out.below u);replace b4:=Gm u b4;replace c0:=Zb (c0.out.below u);have k3:=Gn j4 u;clear j4;replace O:=Za u O;replace J:=Za u J;replace C:=Za u C;replace I:=Za u I;clear u;rw[show Qf 1 1=1 by decide +kernel]at i8;replace i8:=Zb i8;refine hK.out _ _ (λ_=>⟨O,J,C,I⟩) ?_;clear hK K
     try simp only[Qa,Zhb,Zgo,Zg6,Gr,Gq,Gp]
     refine wpAnyL_o 24 λK hK=>?_
     (try rw[Gx Gi]);go_simp;refine(Zjp false rm bn bm rA rB bA bB rk rc rj rd bk bc bj bd _ _ s4 U.out i8.out true (Gv rfl)).mono ?_;rintro e v8 ⟨rfl,u⟩;replace U:=Zb (U.out.below u);replace b4:=Gm u b4;replace c0:=Zb (c0.out.below u);replace i8:=Zb (i8.out.below u);have p9:=Gn k3 u;clear k3;replace O:=Za u O;replace J:=Za u J;replace C:=Za u C;replace I:=Za u I;clear u;refine hK.out _ _ (λ_=>⟨O,J,C,I⟩) ?_;clear hK K
     try simp only[Qa,Zhb,Zgo,Zg6,Gr,Gq,Gp]
     refine Zj9 2 [25,26] rfl Gi ⟨O,J,C,I⟩ ?_
     iterate 2 (refine tkA ?_;try simp only[Qa,Zhb,Zgo,Zg6,Gr,Gq,Gp])
     refine tk0 ?_;refine Zgp 1 [27] rfl Gi ⟨O,J,C,I⟩ ?_
     (refine tkA ?_;try simp only[Qa,Zhb,Zgo,Zg6,Gr,Gq,Gp])
     refine tk0 ?_;refine wpAnyL_fin ?_;clear O J C I;go_wp2_with fail;go_ret;exact⟨rfl,p9.out⟩
open Go.ChangeShapes Go.WideShapes Go.ChangeAt Go.RowKit
theorem Zph{z:Int}(h:(Lit.int .i64 z).wf=true):-9223372036854775808<=z/\z<=9223372036854775807:=by
 simp only[Lit.wf,Bool.and_eq_true,decide_eq_true_eq]at h;exact h
