/- Package linear: Rank. Package linear: det. Package frac: -/
import Derived.RangeFuncNested
import Derived.Test.YthappeninglakaaGreatZe13
set_option maxRecDepth 100000
set_option maxHeartbeats 2000000
set_option linter.unusedSimpArgs false
set_option linter.unusedVariables false
namespace Go.Proofs.YthappeninglakaaGreat
open Go.RowKit
open And renaming intro→Qa
open Nat renaming le_trans→Qb,le_refl→Qe
open Act renaming put→Qc
open List renaming getElem?_eq_getElem→Qd
open Rat renaming divInt→Qf
open Below renaming refl→Qg
attribute [local go_sem] Zg
def Zr9(Q:List (List Rat))(n m:Nat):Prop:=(∀ i k,i<n->k<=m->denTo (Q[i]?.getD []) k<pw 1000)/\∀ i j,(Zh Q i j).num.natAbs<pw 1000
theorem OwnP.poly_at{t:TypeId}{w:World}{base:Nat}{v:Value}{xs:List Int}(h:OwnP t w base v xs):∃ A c,v=.slice A xs.length c/\xs.length<=c/\c<=maxLen/\∀ k,k<xs.length->∃ b neg A1 n1 c1,A=some ⟨b,0,none⟩/\w.cell? ⟨b,k*2,none⟩=some (.bool neg)/\w.cell? ⟨b,k*2+1,none⟩=some (.slice A1 n1 c1)/\Wd w neg A1 n1 c1 (xs[k]?.getD 0):=by
 obtain⟨es,h1,h2,rfl⟩:=h;rcases h1 with ⟨rfl,rfl⟩|⟨g,sp,rfl,h4,h5,h6⟩;exact⟨none,0,rfl,Qe _,Nat.zero_le _,λk hk=>absurd hk Gh⟩;rw[List.length_map];refine⟨_,es.length+sp,rfl,Nat.le_add_right _ _,h5,λk hk=>?_⟩;have he:=Qd hk;have hc:=Zjq (es:=es++List.replicate sp Zcv) (i:=k) (e:=es[k]) (by rw[List.getElem?_append_left hk];exact he);have hm:=h2 es[k] (List.getElem_mem hk);refine⟨g,_,_,_,_,rfl,by rw[h6.cell];exact hc.1,by rw[h6.cell];exact hc.2,?_⟩;rw[List.getElem?_map,he];exact WE.wd hm.1 hm.2
theorem fCmp_ok(na nb na' nb':Bool)(A B A' B':Option Addr)(n c m d n' c' m' d':Nat)(a b:Rat)(w:World)(ha:Fr w na A n c nb B m d a)(hb:Fr w na' A' n' c' nb' B' m' d' b)(sa:Sm a)(sb:Sm b) :
    Calls Tryz.prog 106 #[.agg #[.bool na,.slice A n c,.bool nb,.slice B m d],.agg #[.bool na',.slice A' n' c',.bool nb',.slice B' m' d']] w λe w'=>e=.returned (.tuple #[.int .i64 (Zox a b),.int .i64 0])/\Below w.heap.size w w':=by
 rw[<- Zst];obtain⟨R,hR⟩:=Gz (Zcr (a.num*b.den) (b.num*a.den));rw[hR];replace hR:=Zb hR;have hmx:=Gt;have h1:=Zb (Zbr sa.1 sb.dn);have h2:=Zb (Zbr sb.1 sa.dn);obtain⟨W0,Y,J,⟨q0,q1,q2⟩,s0⟩:=Zcd w 41 #[.bool na,.slice A n c,.bool nb,.slice B m d] 41 #[.bool na',.slice A' n' c',.bool nb',.slice B' m' d'] 26 #[.int .i64 0];have hA:=Zb (ha.below J);have hD:=Zb (hb.below J);clear ha hb sa sb;obtain⟨a0,a1,a2,a3,-⟩:=q0.four;have hq:=Zb (Qa q0 (Qa q1 q2));clear q0 q1 q2
 go_enter_defers Tryz.func106,Tryz.ntmps106
 go_wp2_with fail;refine(Zeh na nb A B n c m d a W0 hA.out).mono ?_;rintro e w1 ⟨rfl,I⟩;have O:Below w.heap.size w w1:=Gs J I;have s1:W0.heap.size<=w1.heap.size:=I.size;replace hA:=Zb (hA.out.below I);replace hD:=Zb (hD.out.below I);obtain⟨q0,q1,q2⟩:=hq.out;replace q0:=Zc I q0;replace q1:=Zc I q1;replace q2:=Zc I q2;clear Y hq I J a0 a1 a2 a3;obtain⟨b0,b1,b2,b3,-⟩:=q1.four;have hq:=Zb (Qa q0 (Qa q1 q2));clear q0 q1 q2;go_wp2_with fail;refine(Zfl w1).mono ?_;rintro e w1 ⟨rfl,rfl⟩;go_wp2_with fail;refine(Zeh na' nb' A' B' n' c' m' d' b w1 hD.out).mono ?_;rintro e w2 ⟨rfl,C⟩;have hB:=Zb (Gs O C);have sz:=Zb hB.out.size;have s2:w1.heap.size<=w2.heap.size:=C.size;replace hA:=Zb (hA.out.below C);replace hD:=Zb (hD.out.below C);obtain⟨q0,q1,q2⟩:=hq.out;replace q0:=Zb (Zc C q0);replace q1:=Zb (Zc C q1);replace q2:=Zb (Zc C q2);clear hq C O b0 b1 b2 b3;go_wp2_with fail;refine(Zfl w2).mono ?_;rintro e w2 ⟨rfl,rfl⟩;obtain⟨a0,a1,a2,a3,-⟩:=q0.out.four;obtain⟨b0,b1,b2,b3,-⟩:=q1.out.four;go_wp2_with fail
 refine Zy [10] (λW'=>W'.cell? ⟨w.heap.size,0,none⟩=some (.bool na)/\W'.cell? ⟨w.heap.size,1,none⟩=some (.slice A n c)/\W'.cell? ⟨w.heap.size,2,none⟩=some (.bool nb)/\W'.cell? ⟨w.heap.size,3,none⟩=some (.slice B m d)/\W'.cell? ⟨w.heap.size+1,0,none⟩=some (.bool na')/\W'.cell? ⟨w.heap.size+1,1,none⟩=some (.slice A' n' c')/\W'.cell? ⟨w.heap.size+1,2,none⟩=some (.bool nb')/\W'.cell? ⟨w.heap.size+1,3,none⟩=some (.slice B' m' d')) hmx ⟨a0,a1,a2,a3,b0,b1,b2,b3⟩ (λ_=>?_);refine Zj9 4 [0,1,3,4] rfl Gi ⟨a0,a1,a2,a3,b0,b1,b2,b3⟩ ?_
 iterate 4 (refine tkA ?_;try simp only[Qc,Zhb,Zgo,Zg6,Gr,Gq,Gp])
 refine tk0 ?_;refine wpAnyL_o 2 λK hK=>?_;go_simp;refine(Zfg na nb na' nb' A B A' B' n c m d n' c' m' d' a b w2.drew hA.out hD.out h1.out).mono ?_;rintro e w3 ⟨h,nu,U,k1,u,rfl,hU⟩;replace h:=Zu h;replace hU:=Zb hU;replace q0:=Gm h q0;replace q1:=Gm h q1;replace q2:=Gm h q2;replace hA:=Zb (hA.out.below h);replace hD:=Zb (hD.out.below h);replace hB:=Zb (hB.out.trans (h.mono sz.out));replace sz:=Zb (Qb sz.out h.size);clear a0 a1 a2 a3 b0 b1 b2 b3;obtain⟨a0,a1,a2,a3,-⟩:=q0.out.four;obtain⟨b0,b1,b2,b3,-⟩:=q1.out.four;clear h;refine hK.out _ _ (λ_=>⟨a0,a1,a2,a3,b0,b1,b2,b3⟩) ?_;clear hK K
 try simp only[Qc,Zhb,Zgo,Zg6]
 refine wpAnyL_o 5 λK hK=>?_;go_simp;refine(Zfg na' nb' na nb A' B' A B n' c' m' d' n c m d b a w3 hD.out hA.out h2.out).mono ?_;rintro e w4 ⟨o,nv,V,k2,v,rfl,hV⟩;replace hU:=Zb (hU.out.below o);replace hV:=Zb hV;replace q0:=Gm o q0;replace q1:=Gm o q1;replace q2:=Gm o q2;replace hA:=Zb (hA.out.below o);replace hD:=Zb (hD.out.below o);replace hB:=Zb (hB.out.trans (o.mono sz.out));replace sz:=Zb (Qb sz.out o.size);clear a0 a1 a2 a3 b0 b1 b2 b3;obtain⟨a0,a1,a2,a3,-⟩:=q0.out.four;obtain⟨b0,b1,b2,b3,-⟩:=q1.out.four;clear o;refine hK.out _ _ (λ_=>⟨a0,a1,a2,a3,b0,b1,b2,b3⟩) ?_;clear hK K
 try simp only[Qc,Zhb,Zgo,Zg6]
 refine wpAnyL_o 6 λK hK=>?_;go_simp;refine(Zrc nu nv U V k1 u k2 v _ _ w4 hU.out hV.out).mono ?_;rw[hR.out];rintro e w5 ⟨rfl,y⟩;replace q0:=Gm y q0;replace q1:=Gm y q1;replace q2:=Gm y q2;replace hA:=Zb (hA.out.below y);replace hD:=Zb (hD.out.below y);replace hB:=Zb (hB.out.trans (y.mono sz.out));replace sz:=Zb (Qb sz.out y.size);clear a0 a1 a2 a3 b0 b1 b2 b3;obtain⟨a0,a1,a2,a3,-⟩:=q0.out.four;obtain⟨b0,b1,b2,b3,-⟩:=q1.out.four;clear y;have x0:=q2.out.cell 0;have f0:=q2.out.frozen 0;simp at x0;refine hK.out _ _ (λ_=>⟨a0,a1,a2,a3,b0,b1,b2,b3⟩) ?_;clear hK K
 try simp only[Qc,Zhb,Zgo,Zg6]
 refine Zj9 3 [7,8,9] rfl Gi ⟨a0,a1,a2,a3,b0,b1,b2,b3⟩ ?_
 iterate 3 (refine tkA ?_;try simp only[Qc,Zhb,Zgo,Zg6,Gr,Gq,Gp])
 refine tk0 ?_;refine Zv (i:=10) rfl Gi Gi (λK hK=>?_);go_simp;obtain⟨W6,T,a5,a4,kW,kB,s6⟩:=Zao 0 hB.out Gk q2.out;rw[T];refine hK.out _ _ ?_;clear hK K
 try simp only[Qc,Zhb,Zgo,Zg6]
 refine wpAnyL_fin ?_;have r4:=a4.cell 0;simp at r4;go_wp2_with fail;refine leaves_cons (f:=147) (args:=#[.pointer (some ⟨w.heap.size+1+1,0,none⟩)]) Gh Gd ?_;refine(Zha _ _).mono ?_;rintro e u' w'' ⟨rfl,rfl,rfl⟩;refine⟨.tuple #[.int .i64 R,.int .i64 0],by simp[results,Tryz.results106,go_sem,r4],rfl,a5⟩
section
variable{k n m:Nat}{Q:List (List Rat)}
end
section
variable{A:Option Addr}{n c:Nat}{rs:List RX}{w:World}
end
open Go.RowKit Go.Shelf
attribute [local go_sem] Oper.semAt_some
def rsAt(es:List RS)(k:Nat):RS:=es[k]?.getD ⟨none,0,0⟩
def SL(w:World)(A:Option Addr)(n c:Nat)(es:List RS):Prop:=
 es.length=n/\n<=c/\c<=maxLen/\(0<n->∃ g o,A=some ⟨g,o,none⟩/\∀ (k:Nat) (e:RS),es[k]?=some e->w.cell? ⟨g,o+k,none⟩=some (.slice e.A e.n e.c))
theorem SL.below{w w':World}{A:Option Addr}{n c:Nat}{es:List RS}(h:SL w A n c es)(hb:Below w.heap.size w w'):SL w' A n c es:=
 ⟨h.1,h.2.1,h.2.2.1,λhn=>by
  obtain⟨b,o,e,hc⟩:=h.2.2.2 hn;exact⟨b,o,e,λk x hx=>Za hb (hc k x hx)⟩⟩
theorem SL.at_{w:World}{A:Option Addr}{n c:Nat}{es:List RS}(h:SL w A n c es){k:Nat}(hk:k<n):∃ b o e,A=some ⟨b,o,none⟩/\es[k]?=some e/\w.cell? ⟨b,o+k,none⟩=some (.slice e.A e.n e.c):=by
 obtain⟨h1,-,-,h4⟩:=h;obtain⟨b,o,e,hc⟩:=h4 Gk;have he:=Qd (l:=es) (i:=k) Gk;exact⟨b,o,es[k],e,he,hc k _ he⟩
theorem sl_kept{W W':World}{row:Option Nat}{A:Option Addr}{n c:Nat}{es:List RS}(h:SL W A n c es)(hg:W.grownBy W' row)(hrow:∀ r,row=some r->∃ o:Obj,W.heap[r]?=some o/\o.isCells=false):SL W' A n c es:=
 ⟨h.1,h.2.1,h.2.2.1,λhn=>by
  obtain⟨b,o,e,hc⟩:=h.2.2.2 hn;exact⟨b,o,e,λk x hx=>cell_kept (hc k x hx) hg hrow⟩⟩
def KpR(Bs:Nat)(A:Option Addr)(n c:Nat)(es:List RS)(W W':World):Prop:=
 (W.cell? ⟨Bs,0,none⟩=some (.slice A n c)->W'.cell? ⟨Bs,0,none⟩=some (.slice A n c))/\(SL W A n c es->SL W' A n c es)
theorem KpR.trans{Bs n c:Nat}{A:Option Addr}{es:List RS}{W1 W2 W3:World}(h:KpR Bs A n c es W1 W2)(k:KpR Bs A n c es W2 W3):KpR Bs A n c es W1 W3:=⟨λx=>k.1 (h.1 x),λx=>k.2 (h.2 x)⟩
theorem KpR.put{Bs n c:Nat}{A:Option Addr}{es:List RS}(W:World)(lp:Nat)(o o':Obj)(ho:W.heap[lp]?=some o)(hc:o.isCells=false):KpR Bs A n c es W (W.putObj lp o'):=
 ⟨λh=>cell_kept h (grownBy_putObj' W lp o') (λr e=>by cases e;exact⟨o,ho,hc⟩),λh=>sl_kept h (grownBy_putObj' W lp o') (λr e=>by cases e;exact⟨o,ho,hc⟩)⟩
theorem Zyt(A:Option Addr)(n c:Nat)(w:World) :
    Calls Tryz.prog 129 #[.slice A n c] w λe w'=>e=.returned (.func (.func 177) #[] #[.pointer (some ⟨w.heap.size,0,none⟩)])/\w.alloc (.cells #[.slice A n c] 149)=w':=by
 go_in
 go_wp2
 go_ret;exact⟨rfl,rfl⟩
def Z1h(d:Nat)(P:Program)(gf:Nat)(lb:Array Value)(encs:Nat->Array Value)(Kp:World->World->Prop)(N:Nat)(w:World):Prop:=
 ∀ (l:Nat) (J:Nat->World->Prop) (W:World),Below w.heap.size w W->AbidesFrom W.heap.size J ->
  (∀ k V,k<N->J k V->YieldAt Fence.wide (d-1) P l (encs k) V λe V'=>e=.returned (.bool true)/\J (k+1) V'/\Kp V V') ->
  J 0 W->CallsIn Fence.wide d P gf (#[.func (.yield l) #[] #[]]++lb) W λe V'=>(∃ v,e=.returned v)/\J N V'
def goesOn(Kp:World->World->Prop)(J:World->Prop)(W:World):Exit->Act->World->Prop
 | .normal,_,W'=>KeepsOthers W W'/\Kp W W'/\J W'
 | .ret,_,_=>False
 | .exit _,_,_=>False
 | .goto _,_,_=>False
 | .panic _,_,_=>False
 | .outgrown,_,_=>False
theorem Zoa{d:Nat}{P:Program}{g:Operand}{ps:Array Tmp}{assign body:Code}{Q:Exit->Act->World->Prop}{a:Act}{w:World}(h1:1<=d){gf:Nat}{lb:Array Value}
    (hg:a.eval g=.func (.func gf) #[] lb) (eg:∀ args w,(callFunc gf args).run P w=.ok (.enter gf args) w)
    {encs:Nat->Array Value} {Kp:World->World->Prop} {N:Nat} {w0:World} (hseq:Z1h (d-1) P gf lb encs Kp N w0)
    (hKt:∀ {A B C:World},Kp A B->Kp B C->Kp A C) (hKb:∀ (W:World) (l:Nat) (o o':Obj),w.heap.size<=l->W.heap[l]?=some o->o.isCells=false->o.isWalk=false->Kp W (W.putObj l o')) (hb0:Below w0.heap.size w0 w) (hps:∀ k,(encs k).size=ps.size)
    (I:Nat->World->Prop) (hI:OwnFrom w.heap.size I) (h0:I 0 w) (a₁:Nat->Act)
    (hassign:∀ (l k:Nat) (W:World) (K:Act->World->Prop),k<N->K (a₁ k) W ->
     assign.wpIn (Fence.wide.inRound l) (d-1-1) P (Exit.then K (λ_ _ _=>False)) { tmps:=(ps.zip (encs k)).foldl (λt (p,v)=>t.setIfInBounds p v) a.tmps,defers:=[] } W)
    (hbody:∀ (l k:Nat) (W:World),k<N->I k W->body.wpIn (Fence.wide.inRound l) (d-1-1) P (goesOn Kp (I (k+1)) W) (a₁ k) W)
    (hdone:∀ (D:Nat) (W:World),w.heap.size<=D->I N W->W.heap[D]?=some (.deferred (some []))->Q .normal { a with defers:={ target:=.collected D,args:=#[] } :: a.defers } W) :
    (Code.rangeFunc g ps assign body).wpIn Fence.wide d P Q a w:=by
 refine wpIn_rangeFunc λfn hfn=>?_;rw[show Fence.wide.round=none from rfl];obtain⟨B,hB⟩:=Gz w.heap.size;rw[hB]at hI hKb hdone;obtain⟨rec,f⟩:∃ rec:LoopState->Option Code->Loop,rec=λst pe=>{ state:=st,pending:=pe,fn,tmps:=a.tmps,params:=ps,assign,body,defers:=B }:=⟨_,rfl⟩;obtain⟨W1,y⟩:=Gz ((w.alloc (.deferred (some []))).alloc (.loop (rec .ready none)));have sz:W1.heap.size=B+1+1:=by rw[<- y,<- hB];simp
 have lp:W1.heap[B+1]?=some (.loop (rec .ready none)):=by
  have h:=World.alloc_heap_new (w.alloc (.deferred (some []))) (.loop (rec .ready none));rw[World.size_alloc,hB,y]at h;exact h
 have df:W1.heap[B]?=some (.deferred (some [])):=by
  rw[<- y,<- hB];exact(Below.heap_alloc _ _ _ Gh).trans (World.alloc_heap_new w _)
 have i1:I 0 W1:=by rw[<- y];exact hI.alloc _ (hI.alloc _ h0)
 have b1:Below w0.heap.size w0 W1:=by
  rw[<- y];exact hb0.trans (((Qg _ w).alloc (Qe _) _).trans ((Qg _ _).alloc Gh _) |>.mono hb0.size)
 obtain⟨J,hJ⟩:∃ J:Nat->World->Prop,J=λk W=>I k W/\W.heap[B+1]?=some (.loop (rec .ready none))/\W.heap[B]?=some (.deferred (some [])):=⟨_,rfl⟩
 have key:=hseq (B+1) J W1 b1 (λk X Y row hs hgr hr=>by
     rw[hJ]at hs ⊢;have U:∀ r,row=some r->∃ o:Obj,X.heap[r]?=some o/\o.isWalk=true:=λr e=>(hr r e).2;refine⟨hI k X Y row hs.1 hgr (λr e=>?_),(grownBy_keeps hgr U hs.2.1 rfl).trans hs.2.1,(grownBy_keeps hgr U hs.2.2 rfl).trans hs.2.2⟩;obtain⟨hl,o,ho,hw⟩:=hr r e;exact⟨by omega,o,ho,Obj.not_cells_of_walk hw⟩)
  (λk V hk hs=>by
   rw[hJ]at hs;obtain⟨hi,hl,hd⟩:=hs;have a1:B+1<V.heap.size:=(Array.getElem?_eq_some_iff.1 hl).1;have hy:=run_yield (P:=P) (args:=encs k) hl (by rw[f];exact hps k);rw[f]at hy;obtain⟨V2,T⟩:∃ X,V.putObj (B+1) (.loop { rec .ready none with state:=.busy })=X:=⟨_,rfl⟩;refine⟨fn,_,assign,body,hy,roundIn_of_wpIn hfn (hassign _ k V _ hk ⟨V2,by rw[<- T];exact run_beginRound hl (by rw[f]),?_⟩)⟩;have a2:V2.heap[B+1]?=some (.loop { rec .ready none with state:=.busy }):=by rw[<- T];exact World.putObj_heap_same a1
   have a0:V2.heap[B]?=some (.deferred (some [])):=by rw[<- T];exact(World.putObj_heap_other Gk).trans hd
   have a5:Kp V V2:=by rw[<- T];exact hKb _ _ _ _ Gk hl rfl rfl
   have a4:I k V2:=by rw[<- T];exact hI.putObj _ hi Gk hl rfl
   refine wpIn_mono (hbody _ k V2 hk a4) λe a3 V3 hq=>?_;cases e with
   | normal =>
    obtain⟨ko,kp,i3⟩:=hq;have O:=ko.same _ _ a2 rfl;have u:=run_endRound (P:=P) none O;rw[f]at u O;refine⟨_,_,u,rfl,?_,hKt (hKt a5 kp) (hKb _ _ _ _ Gk O rfl rfl)⟩;rw[hJ];refine⟨hI.putObj _ i3 Gk O rfl,?_,(World.putObj_heap_other Gk).trans (ko.same _ _ a0 rfl)⟩;rw[f];exact World.putObj_heap_same (Array.getElem?_eq_some_iff.1 O).1
   | ret=>exact hq.elim
   | exit id=>exact hq.elim
   | goto t=>exact hq.elim
   | panic ch=>exact hq.elim
   | outgrown=>exact hq.elim)
  (by rw[hJ];exact⟨i1,lp,df⟩)
 refine⟨B+1,[{ target:=.collected B,args:=#[] }],W1,{ target:=.fn (.func gf) lb,args:=#[.func (.yield (B+1)) #[] #[]] },W1,gf,#[.func (.yield (B+1)) #[] #[]]++lb,W1,?_,?_,λ_ _=>trivial,?_,λ_=>h1,?_⟩;rw[<- y,f,<- hB];exact run_enterLoop_outer _ _ _ _ _
 ·simp only[resolve,hg]
  simp[go_sem]
 ·simp[invoke,go_sem,eg]
 refine key.mono ?_;rintro e W2 ⟨⟨v,rfl⟩,hs⟩;rw[hJ]at hs;obtain⟨hi,hl,hd⟩:=hs;have u:=run_endLoop (P:=P) hl (by rw[f];simp);rw[f]at u;exact⟨none,_,u,hdone _ _ (Qe _) (hI.putObj _ hi Gk hl rfl) ((World.putObj_heap_other Gk).trans hd)⟩
def Zny(es:List RS)(n:Nat)(k:Nat):Array Value:=#[.int .i64 ((n-1-k:Nat):Int),RS.val (rsAt es (n-1-k))]
theorem Zy5(d:Nat)(hd:1<=d)(Bs n c:Nat)(A:Option Addr)(es:List RS)(w:World)(hc:w.cell? ⟨Bs,0,none⟩=some (.slice A n c))(hL0:SL w A n c es) :
    Z1h d Tryz.prog 177 #[.pointer (some ⟨Bs,0,none⟩)] (Zny es n) (KpR Bs A n c es) n w:=by
 intro lp J W hW _ hY h0;have T:W.cell? ⟨Bs,0,none⟩=some (.slice A n c):=(hW.cell (Zo hc)).trans hc;have hL:SL W A n c es:=hL0.below hW;clear hW hc hL0;have V:=hL.2.1;have I:=hL.2.2.1;unfold maxLen at I;refine callsIn_of_wp Tryz.func177 rfl trivial ?_ rfl;simp only[Tryz.ntmps177,List.size_toArray,List.length_cons,List.length_nil,Nat.reduceAdd,Nat.reduceSub,Array.replicate_succ,Array.replicate_zero,List.push_toArray,List.append_toArray,List.nil_append,List.cons_append]
 gi_wp2
 gi_loopw [3] (λi wr=>∃ k:Nat,k<=n/\i=.int .i64 ((n:Int)-1-k)/\J k wr/\Hid (wr.cell? ⟨Bs,0,none⟩=some (.slice A n c))/\SL wr A n c es)
  (λi _=>(intOf i+1).toNat)
 case atStart=>exact⟨0,Nat.zero_le _,by go_num,h0,T,hL⟩
 case round =>
  obtain⟨k,hk,rfl,h,f,u⟩:=hrel;have U:=f.out;by_cases hlt:k<n
  ·obtain⟨b,o,e,rfl,he,Y⟩:=u.at_ (k:=n-1-k) Gk
   obtain⟨fn,tmps,assign,body,hy,hR⟩:=hY k wr hlt h;dsimp only[Zny,RS.val,rsAt]at hy;rw[he,Option.getD_some]at hy;rw[show ((n-1-k:Nat):Int)=(n:Int)-1-k by omega]at hy
   gi_wp2
   refine hR.mono ?_;rintro e W3 ⟨rfl,O,y⟩;have C:=Zb (y.1 f.out)
   gi_wp2
   go_roundw
   case rel=>exact⟨k+1,by omega,by go_num,O,C,y.2 u⟩
   case measure=>simp[intOf];omega
  obtain rfl:k=n:=Gk
  gi_wp2
  go_end0
  exact⟨⟨_,rfl⟩,h⟩
theorem Zut(na:Bool)(A B:Option Addr)(n c m d:Nat)(za zb:Int)(w:World)(ha:Wd w na A n c za)(hb:Wd w true B m d zb)(h0:zb<0) :
    Calls Tryz.prog 157 #[.agg #[.bool na,.slice A n c],.agg #[.bool true,.slice B m d]] w (Zdt w (Qf za zb)):=by
 have e3:=Zdu ha.small hb.small;have hx:=Zb (Zke (a:=za) (b:=zb) Gk);have hy:=Zb (Zjw (a:=za) (b:=zb) Gk);have a2:=Zb (Zl0 (a:=za) (b:=zb) Gk);have b6:Zgh za zb=-((Nat.gcd za.natAbs zb.natAbs:Nat):Int):=by unfold Zgh;rw[Gx h0]
 rw[b6]at hx hy a2;have HA:=Zb ha;have HB:=Zb hb;obtain⟨G,hG⟩:=Gz (Nat.gcd za.natAbs zb.natAbs);rw[hG]at hx hy a2 e3
 have HGc:Hid (∀ W:World,Wd W na A n c za->Wd W true B m d zb->Calls Tryz.prog 151 #[.agg #[.bool na,.slice A n c],.agg #[.bool true,.slice B m d]] W (ResW W (G:Int))):=λW h1 h2=>by
  have:=Zky na true A B n c m d za zb W h1 h2;rw[hG]at this;exact this
 generalize Qf za zb=R at *;clear ha hb hG b6;have a9:∀ X Y Z:Obj,Below w.heap.size w (((w.alloc X).alloc Y).alloc Z):=λX Y Z=>(((Qg w.heap.size w).alloc (Qe _) _).alloc Gh _).alloc Gg _;have a9:=Zb a9;go_in;go_wp2_with fail;have q0:Blk (((w.alloc (.cells #[.bool na,.slice A n c] 39)).alloc (.cells #[.bool true,.slice B m d] 39)).alloc (.cells #[.bool false,.slice none 0 0,.bool false,.slice none 0 0] 41)) w.heap.size 39 #[.bool na,.slice A n c]:=((Blk.new _ _ _).alloc _).alloc _
 have q1:Blk (((w.alloc (.cells #[.bool na,.slice A n c] 39)).alloc (.cells #[.bool true,.slice B m d] 39)).alloc (.cells #[.bool false,.slice none 0 0,.bool false,.slice none 0 0] 41)) (w.heap.size+1) 39 #[.bool true,.slice B m d]:=by
  exact CV
 have q2:Blk (((w.alloc (.cells #[.bool na,.slice A n c] 39)).alloc (.cells #[.bool true,.slice B m d] 39)).alloc (.cells #[.bool false,.slice none 0 0,.bool false,.slice none 0 0] 41)) (w.heap.size+1+1) 41 #[.bool false,.slice none 0 0,.bool false,.slice none 0 0]:=by
  exact CU
 refine(HGc.out _ (((HA.out.alloc _).alloc _).alloc _) (((HB.out.alloc _).alloc _).alloc _)).mono ?_;rintro e w1 ⟨y,ng,Ag,kg,cg,code,rfl,hR⟩;rcases hR with ⟨-,rfl,b2⟩|⟨e0,-⟩
 case inr=>exact absurd e0 Gk
 have C:Below w.heap.size w w1:=(a9.out _ _ _).trans (y.mono Gg);have b4:=Zb (HA.out.below C);have d8:=Zb (HB.out.below C);have s1:w.heap.size+1+1<w1.heap.size:=by have:=y.size;simp at this;omega
 replace q0:=Zc y q0;replace q1:=Zc y q1;replace q2:=Zc y q2;obtain⟨J,T,-,-⟩:=q0.two;obtain⟨aP,aQ,-,-⟩:=q1.two;have hq:=Zb (Qa q0 (Qa q1 q2));clear q0 q1 q2 y;go_wp2_with fail;refine(Zd0 ng Ag kg cg _).mono ?_;rintro e w2 ⟨rfl,h⟩;have c4:Below w.heap.size w w2:=Gs C h;have c9:=Zb (b4.out.below h);have c6:=Zb (d8.out.below h);have d6:=Zb (b2.below h);have s2:w.heap.size+1+1<w2.heap.size:=by have:=h.size;omega
 have q0:=Zc h hq.out.1;have q1:=Zc h hq.out.2.1;have q2:=Zc h hq.out.2.2;clear J T aP aQ C h b2 b4 d8 hq;obtain⟨W3,a0,b8,q3,kW,kB,s3⟩:=Zs 39 #[.bool ng,.slice Ag kg cg] c4 Gk;replace q0:=kB _ _ _ q0;replace q1:=kB _ _ _ q1;replace q2:=kB _ _ _ q2;have d4:=Zb (kW _ _ _ _ _ c9.out);have d5:=Zb (kW _ _ _ _ _ c6.out);have b0:=Zb (kW _ _ _ _ _ d6.out);have s4:w.heap.size+1+1<w2.heap.size:=s2;clear kW kB c9 c6 d6 c4;have c0:=Zb q0.two;have c1:=Zb q1.two;have c3:=Zb q3.two;rw[<- a0]at c0 c1 c3;obtain⟨J,T,-,-⟩:=c0.out;obtain⟨aP,aQ,-,-⟩:=c1.out;obtain⟨aW,aX,-,-⟩:=c3.out;have hq:=Zb (Qa q0 (Qa q1 (Qa q2 q3)));clear q0 q1 q2 q3;replace a0:=Zb a0;go_wp2_with fail;rw[a0.out];refine(Neg_ok ng Ag kg cg G W3 b0.out).mono ?_;rintro e w4 ⟨o,n5,A5,k5,c5,code,rfl,hR⟩;have a5:(-(G:Int)).natAbs<pw 4096:=by rw[Int.natAbs_neg];exact b0.out.small
 have b9:=Zb (hR.small a5);have a6:=hR.code0 a5;subst a6;have I:Below w.heap.size w w4:=b8.trans (o.mono Gk);have b3:=Zb (d4.out.below o);have V:=Zb (d5.out.below o);have s5:w2.heap.size+1<=w4.heap.size:=by have:=o.size;omega
 have q0:=Zc o hq.out.1;have q1:=Zc o hq.out.2.1;have q2:=Zc o hq.out.2.2.1;have q3:=Zc o hq.out.2.2.2;clear o c0 c1 c3 J T aP aQ aW aX a0 d4 d5 b0 b8 hq hR a5;have hq:=Zb (Qa q0 (Qa q1 (Qa q2 q3)));clear q0 q1 q2 q3;go_wp2_with fail;refine(Zd0 n5 A5 k5 c5 _).mono ?_;rintro e w5 ⟨rfl,f⟩;have U:Below w.heap.size w w5:=I.trans (f.mono Gk);have b5:=Zb (b3.out.below f);have a1:=Zb (V.out.below f);have b7:=Zb (b9.out.below f);have s6:w4.heap.size<=w5.heap.size:=f.size;have q0:=Zc f hq.out.1;have q1:=Zc f hq.out.2.1;have q2:=Zc f hq.out.2.2.1;have q3:=Zc f hq.out.2.2.2;clear f b3 V b9 I hq;obtain⟨W7,O,aO,a3,kW,kB,s7⟩:=Zau n5 A5 k5 c5 U Gk q3;replace q0:=kB _ _ _ Gk q0;replace q1:=kB _ _ _ Gk q1;replace q2:=kB _ _ _ Gk q2;have d9:=Zb (kW _ _ _ _ _ b5.out);have d7:=Zb (kW _ _ _ _ _ a1.out);have a4:=Zb (kW _ _ _ _ _ b7.out);obtain⟨e5,e4,e2,e1⟩:=q3.two;have c0:=Zb q0.two;have c1:=Zb q1.two;have c3:=Zb a3.two;obtain⟨J,T,-,-⟩:=c0.out;obtain⟨aP,aQ,-,-⟩:=c1.out;obtain⟨aW,aX,-,-⟩:=c3.out;have hq:=Zb (Qa q0 (Qa q1 (Qa q2 a3)));clear q0 q1 q2 q3 a3 kW kB b5 a1 b7 U;replace O:=Zb O;have d0:=O.out;go_wp2_with fail;(try rw[O.out]);clear e5 e4 e2 e1 d0;refine(Zga na n5 A A5 n c k5 c5 za (-(G:Int)) _ d9.out a4.out a2.out).mono ?_;rintro e w9 ⟨u,nx,Ax,kx,cx,nr,Ar,kr,cr,rfl,a7,-⟩;rw[hx.out]at a7;have I:Below w.heap.size w w9:=aO.trans (u.mono Gk);have V:=Zb (d7.out.below u);have d3:=Zb (a4.out.below u);have s8:w2.heap.size+1<=w9.heap.size:=by have:=u.size;omega
 have q1:=Zc u hq.out.2.1;have q2:=Zc u hq.out.2.2.1;have q3:=Zc u hq.out.2.2.2;clear u c0 c1 c3 J T aP aQ aW aX O d9 d7 a4 aO hq;obtain⟨W5,a8,U,q5,kW,kB,s6⟩:=Zs 39 #[.bool nx,.slice Ax kx cx] I Gk;replace q1:=kB _ _ _ q1;replace q2:=kB _ _ _ q2;replace q3:=kB _ _ _ q3;have a1:=Zb (kW _ _ _ _ _ V.out);have b1:=Zb (kW _ _ _ _ _ d3.out);have c7:=Zb (kW _ _ _ _ _ a7);clear kW kB V d3 a7 I;obtain⟨W6,aI,aS,-,kW,kB,s7⟩:=Zs 39 #[.bool nr,.slice Ar kr cr] U Gk;replace q1:=kB _ _ _ q1;replace q2:=kB _ _ _ q2;replace q3:=kB _ _ _ q3;replace q5:=kB _ _ _ q5;have cY:=Zb (kW _ _ _ _ _ a1.out);have cZ:=Zb (kW _ _ _ _ _ b1.out);have cb:=Zb (kW _ _ _ _ _ c7.out);clear kW kB a1 b1 c7 U;have c1:=Zb q1.two;have c3:=Zb q3.two;rw[<- aI,<- a8]at c1 c3;obtain⟨aP,aQ,-,-⟩:=c1.out;obtain⟨aW,aX,-,-⟩:=c3.out;have hq:=Zb (Qa q2 q5);clear q1 q2 q3 q5;rw[<- a8]at aI;replace aI:=Zb aI;clear a8;go_wp2_with fail;rw[aI.out];refine(Zga true n5 B A5 m d k5 c5 zb (-(G:Int)) _ cY.out cZ.out a2.out).mono ?_;rintro e w7 ⟨az,ny,Ay,ky,cy,ns,As,ks,cs,rfl,dE,-⟩;rw[hy.out]at dE;have aO:Below w.heap.size w w7:=aS.trans (az.mono Gk);have dX:=Zb (cb.out.below az);have e6:w9.heap.size+2<=w7.heap.size:=by have:=az.size;omega
 exact Eo
theorem Ztz(na nb:Bool)(A B:Option Addr)(n c m d:Nat)(za zb:Int)(w:World)(ha:Wd w na A n c za)(hb:Wd w nb B m d zb)(h0:zb≠0) :
    Calls Tryz.prog 157 #[.agg #[.bool na,.slice A n c],.agg #[.bool nb,.slice B m d]] w (Zdt w (Qf za zb)):=by
 by_cases hn:zb<0
 ·have:nb=true:=by rw[hb.1];exact Gv hn
  subst this;exact Zut na A B n c m d za zb w ha hb hn
 have:nb=false:=by rw[hb.1];exact Gu hn
 subst this;exact Zja na A B n c m d za zb w ha hb Gk
theorem Zz2(F:FuncId)(na nb na' nb':Bool)(A B A' B':Option Addr)(n c m d n' c' m' d':Nat)(a b:Rat)(X Y:Int)(w:World)(ha:Fr w na A n c nb B m d a)(hb:Fr w na' A' n' c' nb' B' m' d' b)(hY:Y≠0)(hcf:∀ (x y:Value) (W:World),(callFunc F #[x,y]).run Tryz.prog W=.ok (.enter F #[x,y]) W)
    (hF:∀ W:World,Fr W na A n c nb B m d a->Fr W na' A' n' c' nb' B' m' d' b->Calls Tryz.prog F #[.agg #[.bool na,.slice A n c,.bool nb,.slice B m d],.agg #[.bool na',.slice A' n' c',.bool nb',.slice B' m' d']] W (Zpb W X Y)) :
    Calls Tryz.prog 130 #[.agg #[.bool na,.slice A n c,.bool nb,.slice B m d],.agg #[.bool na',.slice A' n' c',.bool nb',.slice B' m' d'],.func (.func F) #[] #[]] w (Zfi w (Qf X Y)):=by
 obtain⟨W0,O,C,⟨q0,q1,q2,q3⟩,s0⟩:=Zfs w 41 #[.bool na,.slice A n c,.bool nb,.slice B m d] 41 #[.bool na',.slice A' n' c',.bool nb',.slice B' m' d'] 41 #[.bool false,.slice none 0 0,.bool false,.slice none 0 0] 26 #[.int .i64 0];have hA:=Zb (ha.below C);have hD:=Zb (hb.below C);replace hF:=Zb hF;clear ha hb;replace O:=Zb O;obtain⟨a0,a1,a2,a3,-⟩:=q0.four;have hq:=Zb (Qa q0 (Qa q1 (Qa q2 q3)));clear q0 q1 q2 q3
 go_enter_defers Tryz.func130,Tryz.ntmps130
 have a6:=O.out;go_wp2_with fail;clear O a6;refine(Zeh na nb A B n c m d a W0 hA.out).mono ?_;rintro e w1 ⟨rfl,o⟩;have T:Below w.heap.size w w1:=Gs C o;have s1:W0.heap.size<=w1.heap.size:=o.size;replace hA:=Zb (hA.out.below o);replace hD:=Zb (hD.out.below o);obtain⟨q0,q1,q2,q3⟩:=hq.out;replace q0:=Zc o q0;replace q1:=Zc o q1;replace q2:=Zc o q2;replace q3:=Zc o q3;clear hq o C a0 a1 a2 a3;obtain⟨b0,b1,b2,b3,-⟩:=q1.four;have hq:=Zb (Qa q0 (Qa q1 (Qa q2 q3)));clear q0 q1 q2 q3;go_wp2_with fail;refine(Zfl w1).mono ?_;rintro e w1 ⟨rfl,rfl⟩;go_wp2_with fail;refine(Zeh na' nb' A' B' n' c' m' d' b w1 hD.out).mono ?_;rintro e w2 ⟨rfl,h⟩;have a4:Below w.heap.size w w2:=Gs T h;have s2:w1.heap.size<=w2.heap.size:=h.size;replace hA:=Zb (hA.out.below h);replace hD:=Zb (hD.out.below h);obtain⟨q0,q1,q2,q3⟩:=hq.out;replace q0:=Zc h q0;replace q1:=Zc h q1;replace q2:=Zc h q2;replace q3:=Zc h q3;clear hq h T b0 b1 b2 b3;obtain⟨a0,a1,a2,a3,-⟩:=q0.four;obtain⟨b0,b1,b2,b3,-⟩:=q1.four;have hq:=Zb (Qa q2 q3);clear q0 q1 q2 q3;go_wp2_with fail;refine(Zfl w2).mono ?_;rintro e w2 ⟨rfl,rfl⟩;go_wp2_with fail;refine(hF.out w2 hA.out hD.out).mono ?_;rintro e w3 ⟨J,nu,U,k1,u,nv,V,k2,v,rfl,hU,hV⟩;have a5:Below w.heap.size w w3:=Gs a4 J;have s3:w2.heap.size<=w3.heap.size:=J.size;have q2:=Zc J hq.out.1;have q3:=Zc J hq.out.2
 clear hq J a4 a0 a1 a2 a3 b0 b1 b2 b3 hA hD hF;have hq:=Zb (Qa q2 q3);replace hU:=Zb hU;replace hV:=Zb hV;clear q2 q3;go_wp2_with fail;refine(Ztz nu nv U V k1 u k2 v X Y w3 hU.out hV.out hY).mono ?_;rintro e w4 ⟨I,nx,Ax,kx,cx,ny,Ay,ky,cy,rfl,hF⟩;have a9:Below w.heap.size w w4:=Gs a5 I;have s4:w3.heap.size<=w4.heap.size:=I.size;have q2:=Zc I hq.out.1;have q3:=Zc I hq.out.2;clear hq I hU hV a5;have c2:=Zb q2.four;have c3:=q3.cell 0;have f3:=q3.frozen 0;simp at c3;obtain⟨b9,b6,b8,b5,b4,a7,a8,b7⟩:=c2.out;have hq:=Zb (Qa q2 q3);exact CC
theorem Zuh(x y:Value)(W:World):(callFunc 155 #[x,y]).run Tryz.prog W=.ok (.enter 155 #[x,y]) W:=by simp[go_sem]
theorem Div1_ok(na nb na' nb':Bool)(A B A' B':Option Addr)(n c m d n' c' m' d':Nat)(a b:Rat)(w:World)(ha:Fr w na A n c nb B m d a)(hb:Fr w na' A' n' c' nb' B' m' d' b)
    (hs:(a.num*b.den).natAbs<pw 4096) (ht:((a.den:Int)*b.num).natAbs<pw 4096) (h0:b≠0) :
    Calls Tryz.prog 155 #[.agg #[.bool na,.slice A n c,.bool nb,.slice B m d],.agg #[.bool na',.slice A' n' c',.bool nb',.slice B' m' d']] w (Zpb w (a.num*b.den) ((a.den:Int)*b.num)):=by
 obtain⟨W0,I,C,⟨q0,q1,q2,q3⟩,s0⟩:=Zfs w 41 #[.bool na,.slice A n c,.bool nb,.slice B m d] 41 #[.bool na',.slice A' n' c',.bool nb',.slice B' m' d'] 39 #[.bool false,.slice none 0 0] 39 #[.bool false,.slice none 0 0]
 have a5:((n':Int) == 0)=false:=by
  have:n'≠0:=λe=>h0 (hb.zero_iff.1 e);simp;omega
 have hmx:=Gt;have hA:=Zb (ha.below C);have hD:=Zb (hb.below C);replace hs:=Zb hs;replace ht:=Zb ht;have sz:=Zb C.size;have hB:=Zb C;clear ha hb C s0;replace q0:=Zb q0;replace q1:=Zb q1;replace q2:=Zb q2;replace q3:=Zb q3;obtain⟨a0,a1,a2,a3,-⟩:=q0.out.four;obtain⟨b0,b1,b2,b3,-⟩:=q1.out.four;replace I:=Zb I;go_in;go_wp2_with fail;rw[I.out];refine(Zka na' A' n' c' W0 (Qb hD.out.1.2.1 Gj) false a5).mono ?_;rintro e wz ⟨rfl,u⟩;replace q0:=Gm u q0;replace q1:=Gm u q1;replace q2:=Gm u q2;replace q3:=Gm u q3;replace hA:=Zb (hA.out.below u);replace hD:=Zb (hD.out.below u);replace hB:=Zb (hB.out.trans (u.mono sz.out));replace sz:=Zb (Qb sz.out u.size);clear a0 a1 a2 a3 b0 b1 b2 b3 I u;obtain⟨a0,a1,a2,a3,-⟩:=q0.out.four;obtain⟨b0,b1,b2,b3,-⟩:=q1.out.four;go_wp2_with fail;refine Zy [12] (λW'=>W'.cell? ⟨w.heap.size,0,none⟩=some (.bool na)/\W'.cell? ⟨w.heap.size,1,none⟩=some (.slice A n c)/\W'.cell? ⟨w.heap.size,2,none⟩=some (.bool nb)/\W'.cell? ⟨w.heap.size,3,none⟩=some (.slice B m d)/\W'.cell? ⟨w.heap.size+1,0,none⟩=some (.bool na')/\W'.cell? ⟨w.heap.size+1,1,none⟩=some (.slice A' n' c')/\W'.cell? ⟨w.heap.size+1,2,none⟩=some (.bool nb')/\W'.cell? ⟨w.heap.size+1,3,none⟩=some (.slice B' m' d')) hmx ⟨a0,a1,a2,a3,b0,b1,b2,b3⟩ (λ_=>?_);refine Zj9 6 [0,1,3,4,5,6] rfl Gi ⟨a0,a1,a2,a3,b0,b1,b2,b3⟩ ?_
 iterate 6 (refine tkA ?_;try simp only[Qc,Zhb,Zgo,Zg6,Gr,Gq,Gp])
 refine tk0 ?_;refine wpAnyL_o 2 λK hK=>?_;go_simp;refine(Zfg na nb na' nb' A B A' B' n c m d n' c' m' d' a b wz.drew hA.out hD.out hs.out).mono ?_;rintro e w1 ⟨h,np,P,k,q,rfl,hP⟩;replace h:=Zu h;replace hP:=Zb hP;clear hs;replace q0:=Gm h q0;replace q1:=Gm h q1;replace q2:=Gm h q2;replace q3:=Gm h q3;replace hA:=Zb (hA.out.below h);replace hD:=Zb (hD.out.below h);replace hB:=Zb (hB.out.trans (h.mono sz.out));replace sz:=Zb (Qb sz.out h.size);clear a0 a1 a2 a3 b0 b1 b2 b3;obtain⟨a0,a1,a2,a3,-⟩:=q0.out.four;obtain⟨b0,b1,b2,b3,-⟩:=q1.out.four;clear h;refine hK.out _ _ (λ_=>⟨a0,a1,a2,a3,b0,b1,b2,b3⟩) ?_;clear hK K
 try simp only[Qc,Zhb,Zgo,Zg6]
 refine wpAnyL_o 7 λK hK=>?_;go_simp;refine(Zjd nb na' B A' m d n' c' a.den b.num w1 hA.out.2 hD.out.1).mono ?_;rintro e w3 ⟨o,J,P',k',q',code,rfl,hR⟩;have y:=Zb (hR.small ht.out);have T:=hR.code0 ht.out;subst T;clear ht hR;replace hP:=Zb (hP.out.below o);replace q0:=Gm o q0;replace q1:=Gm o q1;replace q2:=Gm o q2;replace q3:=Gm o q3;replace hA:=Zb (hA.out.below o);replace hD:=Zb (hD.out.below o);replace hB:=Zb (hB.out.trans (o.mono sz.out));replace sz:=Zb (Qb sz.out o.size);clear a0 a1 a2 a3 b0 b1 b2 b3;obtain⟨a0,a1,a2,a3,-⟩:=q0.out.four;obtain⟨b0,b1,b2,b3,-⟩:=q1.out.four;clear o;refine hK.out _ _ (λ_=>⟨a0,a1,a2,a3,b0,b1,b2,b3⟩) ?_;clear hK K
 try simp only[Qc,Zhb,Zgo,Zg6]
 refine Zj9 2 [8,9] rfl Gi ⟨a0,a1,a2,a3,b0,b1,b2,b3⟩ ?_
 iterate 2 (refine tkA ?_;try simp only[Qc,Zhb,Zgo,Zg6,Gr,Gq,Gp])
 refine tk0 ?_;refine wpAnyL_o 10 λK hK=>?_;go_simp;refine(Zd0 J P' k' q' w3).mono ?_;rintro e w4 ⟨rfl,f⟩;replace hP:=Zb (hP.out.below f);replace y:=Zb (y.out.below f);replace q0:=Gm f q0;replace q1:=Gm f q1;replace q2:=Gm f q2;replace q3:=Gm f q3;replace hA:=Zb (hA.out.below f);replace hD:=Zb (hD.out.below f);replace hB:=Zb (hB.out.trans (f.mono sz.out));replace sz:=Zb (Qb sz.out f.size);clear a0 a1 a2 a3 b0 b1 b2 b3;obtain⟨a0,a1,a2,a3,-⟩:=q0.out.four;obtain⟨b0,b1,b2,b3,-⟩:=q1.out.four;clear f;obtain⟨x0,x1,f0,f1⟩:=q2.out.two;refine hK.out _ _ (λ_=>⟨a0,a1,a2,a3,b0,b1,b2,b3⟩) ?_;clear hK K
 try simp only[Qc,Zhb,Zgo,Zg6]
 refine wpAnyL_o 11 λK hK=>?_;go_simp;obtain⟨W5,V,Y,O,kW,kB,s5⟩:=Zau np P k q hB.out Gk q2.out;rw[V];clear V x0 x1 f0 f1 a0 a1 a2 a3 b0 b1 b2 b3 hA hD;replace q0:=kB _ _ _ Gk q0.out;replace q1:=kB _ _ _ Gk q1.out;obtain⟨a0,a1,a2,a3,-⟩:=q0.four;obtain⟨b0,b1,b2,b3,-⟩:=q1.four;replace q3:=Zb (kB _ _ _ Gk q3.out);replace hP:=Zb (kW _ _ _ _ _ hP.out);replace y:=Zb (kW _ _ _ _ _ y.out);clear kW kB q2 hB q0 q1;obtain⟨y0,y1,g0,g1⟩:=q3.out.two;refine hK.out _ _ (λ_=>⟨a0,a1,a2,a3,b0,b1,b2,b3⟩) ?_;clear hK K
 try simp only[Qc,Zhb,Zgo,Zg6]
 refine Zv (i:=12) rfl Gi Gi (λK hK=>?_);go_simp;obtain⟨W6,U,a6,a4,kW,kB,s6⟩:=Zau J P' k' q' Y Gk q3.out;rw[U];clear U y0 y1 g0 g1 a0 a1 a2 a3 b0 b1 b2 b3;replace O:=kB _ _ _ Gk O;replace hP:=Zb (kW _ _ _ _ _ hP.out);replace y:=Zb (kW _ _ _ _ _ y.out);clear kW kB q3 Y;refine hK.out _ _ ?_;clear hK K
 try simp only[Qc,Zhb,Zgo,Zg6]
 refine wpAnyL_fin ?_;obtain⟨r0,r1,-⟩:=O.two;obtain⟨r2,r3,-⟩:=a4.two;go_wp2_with fail;refine bodyPost_ret (v:=.tuple #[.agg #[.bool np,.slice P k q],.agg #[.bool J,.slice P' k' q']]) (by simp[results,Tryz.results155,go_sem,r0,r1,r2,r3]) rfl ?_;exact⟨a6,_,_,_,_,_,_,_,_,rfl,hP.out,y.out⟩
theorem Zsk(na nb na' nb':Bool)(A B A' B':Option Addr)(n c m d n' c' m' d':Nat)(a b:Rat)(w:World)(ha:Fr w na A n c nb B m d a)(hb:Fr w na' A' n' c' nb' B' m' d' b)(sa:Sm a)(sb:Sm b)(h0:b≠0) :
    Calls Tryz.prog 111 #[.agg #[.bool na,.slice A n c,.bool nb,.slice B m d],.agg #[.bool na',.slice A' n' c',.bool nb',.slice B' m' d']] w (Zfi w (a/b)):=by
 obtain⟨W0,u,f,⟨q0,q1,q2⟩,s0⟩:=Zcd w 41 #[.bool na,.slice A n c,.bool nb,.slice B m d] 41 #[.bool na',.slice A' n' c',.bool nb',.slice B' m' d'] 41 #[.bool false,.slice none 0 0,.bool false,.slice none 0 0];have hA:=Zb (ha.below f);have hD:=Zb (hb.below f);have hF:=λ(W:World) (h1:Fr W na A n c nb B m d a) (h2:Fr W na' A' n' c' nb' B' m' d' b)=>Div1_ok na nb na' nb' A B A' B' n c m d n' c' m' d' a b W h1 h2 (Zbr sa.1 sb.dn) (Zbr sa.dn sb.1) h0;have hG:=Zb (Zz2 155 na nb na' nb' A B A' B' n c m d n' c' m' d' a b _ _ W0 hA.out hD.out (Zgt a b h0) Zuh hF);rw[Zfo a b h0]at hG;clear hF ha hb sa sb hA hD;obtain⟨a0,a1,a2,a3,-⟩:=q0.four;obtain⟨b0,b1,b2,b3,-⟩:=q1.four;replace q2:=Zb q2;clear q0 q1;go_in;go_wp2_with fail;refine hG.out.mono ?_;rintro e w1 ⟨h,nx,Ax,kx,cx,ny,Ay,ky,cy,rfl,hX⟩;have o:Below w.heap.size w w1:=Gs f h;have s1:W0.heap.size<=w1.heap.size:=h.size;replace q2:=Gm h q2;replace hX:=Zb hX;clear h a0 a1 a2 a3 b0 b1 b2 b3 f hG u;obtain⟨Y,U,V,T,O,C,J,I⟩:=q2.out.four;go_wp2_with fail;obtain⟨W5,y,aJ,q2,kW,-,s5⟩:=Zaa nx Ax kx cx ny Ay ky cy o Gk q2.out;rw[y];obtain⟨r0,r1,r2,r3,-⟩:=q2.four;refine bodyPost_ret (v:=.tuple #[.agg #[.bool nx,.slice Ax kx cx,.bool ny,.slice Ay ky cy],.int .i64 0]) (by simp[results,Tryz.results111,go_sem,r0,r1,r2,r3]) rfl ?_;exact FY
