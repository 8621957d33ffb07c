/- Package linear: Rank. Package linear: det. Package linear: -/
import Derived.RangeFuncNested
import Derived.Test.YthappeninglakaaGreatZi14
set_option maxRecDepth 100000
set_option maxHeartbeats 2000000
set_option linter.unusedSimpArgs false
set_option linter.unusedVariables false
namespace Go.Proofs.YthappeninglakaaGreat
open Go.RowKit
open List renaming replicate→Qa,getElem?_eq_getElem→Qb,getElem?_map→Qc,length_map→Qe
open Nat renaming le_refl→Qd
attribute [local go_sem] Zg
def Zs0(Q:List (List Rat))(n m:Nat):Prop:=(∀ i k,i<n->k<=m->denTo (Q[i]?.getD []) k<pw 1000)/\∀ i j,(Zh Q i j).num.natAbs<pw 1000
theorem OwnP.poly_at{t:TypeId}{w:World}{base:Nat}{v:Value}{xs:List Int}(h:OwnP t w base v xs):∃ A c,v=.slice A xs.length c/\xs.length<=c/\c<=maxLen/\∀ k,k<xs.length->∃ b neg A1 n1 c1,A=some ⟨b,0,none⟩/\w.cell? ⟨b,k*2,none⟩=some (.bool neg)/\w.cell? ⟨b,k*2+1,none⟩=some (.slice A1 n1 c1)/\Wd w neg A1 n1 c1 (xs[k]?.getD 0):=by
 obtain⟨es,h1,h2,rfl⟩:=h;rcases h1 with ⟨rfl,rfl⟩|⟨g,sp,rfl,h4,h5,h6⟩;exact⟨none,0,rfl,Qd _,Nat.zero_le _,λk hk=>absurd hk Gh⟩;rw[Qe];refine⟨_,es.length+sp,rfl,Nat.le_add_right _ _,h5,λk hk=>?_⟩;have he:=Qb hk;have hc:=Zjw (es:=es++Qa sp Zcs) (i:=k) (e:=es[k]) (by rw[List.getElem?_append_left hk];exact he);have hm:=h2 es[k] (List.getElem_mem hk);refine⟨g,_,_,_,_,rfl,by rw[h6.cell];exact hc.1,by rw[h6.cell];exact hc.2,?_⟩;rw[Qc,he];exact WE.wd hm.1 hm.2
section
variable{k n m:Nat}{Q:List (List Rat)}
end
section
variable{A:Option Addr}{n c:Nat}{rs:List RX}{w:World}
end
open Go.RowKit Go.Shelf
attribute [local go_sem] Oper.semAt_some
def rsAt(es:List RS)(k:Nat):RS:=es[k]?.getD ⟨none,0,0⟩
def SL(w:World)(A:Option Addr)(n c:Nat)(es:List RS):Prop:=
 es.length=n/\n<=c/\c<=maxLen/\(0<n->∃ g o,A=some ⟨g,o,none⟩/\∀ (k:Nat) (e:RS),es[k]?=some e->w.cell? ⟨g,o+k,none⟩=some (.slice e.A e.n e.c))
theorem SL.below{w w':World}{A:Option Addr}{n c:Nat}{es:List RS}(h:SL w A n c es)(hb:Below w.heap.size w w'):SL w' A n c es:=
 ⟨h.1,h.2.1,h.2.2.1,λhn=>by
  obtain⟨b,o,e,hc⟩:=h.2.2.2 hn;exact⟨b,o,e,λk x hx=>Zb hb (hc k x hx)⟩⟩
theorem SL.at_{w:World}{A:Option Addr}{n c:Nat}{es:List RS}(h:SL w A n c es){k:Nat}(hk:k<n):∃ b o e,A=some ⟨b,o,none⟩/\es[k]?=some e/\w.cell? ⟨b,o+k,none⟩=some (.slice e.A e.n e.c):=by
 obtain⟨h1,-,-,h4⟩:=h;obtain⟨b,o,e,hc⟩:=h4 Gk;have he:=Qb (l:=es) (i:=k) Gk;exact⟨b,o,es[k],e,he,hc k _ he⟩
theorem sl_kept{W W':World}{row:Option Nat}{A:Option Addr}{n c:Nat}{es:List RS}(h:SL W A n c es)(hg:W.grownBy W' row)(hrow:∀ r,row=some r->∃ o:Obj,W.heap[r]?=some o/\o.isCells=false):SL W' A n c es:=
 ⟨h.1,h.2.1,h.2.2.1,λhn=>by
  obtain⟨b,o,e,hc⟩:=h.2.2.2 hn;exact⟨b,o,e,λk x hx=>cell_kept (hc k x hx) hg hrow⟩⟩
def KpR(Bs:Nat)(A:Option Addr)(n c:Nat)(es:List RS)(W W':World):Prop:=
 (W.cell? ⟨Bs,0,none⟩=some (.slice A n c)->W'.cell? ⟨Bs,0,none⟩=some (.slice A n c))/\(SL W A n c es->SL W' A n c es)
theorem KpR.trans{Bs n c:Nat}{A:Option Addr}{es:List RS}{W1 W2 W3:World}(h:KpR Bs A n c es W1 W2)(k:KpR Bs A n c es W2 W3):KpR Bs A n c es W1 W3:=⟨λx=>k.1 (h.1 x),λx=>k.2 (h.2 x)⟩
theorem KpR.put{Bs n c:Nat}{A:Option Addr}{es:List RS}(W:World)(lp:Nat)(o o':Obj)(ho:W.heap[lp]?=some o)(hc:o.isCells=false):KpR Bs A n c es W (W.putObj lp o'):=
 ⟨λh=>cell_kept h (grownBy_putObj' W lp o') (λr e=>by cases e;exact⟨o,ho,hc⟩),λh=>sl_kept h (grownBy_putObj' W lp o') (λr e=>by cases e;exact⟨o,ho,hc⟩)⟩
theorem Zz1(A:Option Addr)(n c:Nat)(w:World) :
    Calls Tryz.prog 129 #[.slice A n c] w λe w'=>e=.returned (.func (.func 177) #[] #[.pointer (some ⟨w.heap.size,0,none⟩)])/\w.alloc (.cells #[.slice A n c] 149)=w':=by
 go_in
 go_wp2
 go_ret;exact⟨rfl,rfl⟩
def Z21(d:Nat)(P:Program)(gf:Nat)(lb:Array Value)(encs:Nat->Array Value)(Kp:World->World->Prop)(N:Nat)(w:World):Prop:=
 ∀ (l:Nat) (J:Nat->World->Prop) (W:World),Below w.heap.size w W->AbidesFrom W.heap.size J ->
  (∀ k V,k<N->J k V->YieldAt Fence.wide (d-1) P l (encs k) V λe V'=>e=.returned (.bool true)/\J (k+1) V'/\Kp V V') ->
  J 0 W->CallsIn Fence.wide d P gf (#[.func (.yield l) #[] #[]]++lb) W λe V'=>(∃ v,e=.returned v)/\J N V'
def goesOn(Kp:World->World->Prop)(J:World->Prop)(W:World):Exit->Act->World->Prop
 | .normal,_,W'=>KeepsOthers W W'/\Kp W W'/\J W'
 | .ret,_,_=>False
 | .exit _,_,_=>False
 | .goto _,_,_=>False
 | .panic _,_,_=>False
 | .outgrown,_,_=>False
theorem Zog{d:Nat}{P:Program}{g:Operand}{ps:Array Tmp}{assign body:Code}{Q:Exit->Act->World->Prop}{a:Act}{w:World}(h1:1<=d){gf:Nat}{lb:Array Value}
    (hg:a.eval g=.func (.func gf) #[] lb) (eg:∀ args w,(callFunc gf args).run P w=.ok (.enter gf args) w)
    {encs:Nat->Array Value} {Kp:World->World->Prop} {N:Nat} {w0:World} (hseq:Z21 (d-1) P gf lb encs Kp N w0)
    (hKt:∀ {A B C:World},Kp A B->Kp B C->Kp A C) (hKb:∀ (W:World) (l:Nat) (o o':Obj),w.heap.size<=l->W.heap[l]?=some o->o.isCells=false->o.isWalk=false->Kp W (W.putObj l o')) (hb0:Below w0.heap.size w0 w) (hps:∀ k,(encs k).size=ps.size)
    (I:Nat->World->Prop) (hI:OwnFrom w.heap.size I) (h0:I 0 w) (a₁:Nat->Act)
    (hassign:∀ (l k:Nat) (W:World) (K:Act->World->Prop),k<N->K (a₁ k) W ->
     assign.wpIn (Fence.wide.inRound l) (d-1-1) P (Exit.then K (λ_ _ _=>False)) { tmps:=(ps.zip (encs k)).foldl (λt (p,v)=>t.setIfInBounds p v) a.tmps,defers:=[] } W)
    (hbody:∀ (l k:Nat) (W:World),k<N->I k W->body.wpIn (Fence.wide.inRound l) (d-1-1) P (goesOn Kp (I (k+1)) W) (a₁ k) W)
    (hdone:∀ (D:Nat) (W:World),w.heap.size<=D->I N W->W.heap[D]?=some (.deferred (some []))->Q .normal { a with defers:={ target:=.collected D,args:=#[] } :: a.defers } W) :
    (Code.rangeFunc g ps assign body).wpIn Fence.wide d P Q a w:=by
 refine wpIn_rangeFunc λfn hfn=>?_;rw[show Fence.wide.round=none from rfl];obtain⟨B,hB⟩:=Gz w.heap.size;rw[hB]at hI hKb hdone;obtain⟨rec,f⟩:∃ rec:LoopState->Option Code->Loop,rec=λst pe=>{ state:=st,pending:=pe,fn,tmps:=a.tmps,params:=ps,assign,body,defers:=B }:=⟨_,rfl⟩;obtain⟨W1,y⟩:=Gz ((w.alloc (.deferred (some []))).alloc (.loop (rec .ready none)));have sz:W1.heap.size=B+1+1:=by rw[<- y,<- hB];simp
 have lp:W1.heap[B+1]?=some (.loop (rec .ready none)):=by
  have h:=World.alloc_heap_new (w.alloc (.deferred (some []))) (.loop (rec .ready none));rw[World.size_alloc,hB,y]at h;exact h
 have df:W1.heap[B]?=some (.deferred (some [])):=by
  rw[<- y,<- hB];exact(Below.heap_alloc _ _ _ Gh).trans (World.alloc_heap_new w _)
 have i1:I 0 W1:=by rw[<- y];exact hI.alloc _ (hI.alloc _ h0)
 have b1:Below w0.heap.size w0 W1:=by
  rw[<- y];exact hb0.trans (((Below.refl _ w).alloc (Qd _) _).trans ((Below.refl _ _).alloc Gh _) |>.mono hb0.size)
 obtain⟨J,hJ⟩:∃ J:Nat->World->Prop,J=λk W=>I k W/\W.heap[B+1]?=some (.loop (rec .ready none))/\W.heap[B]?=some (.deferred (some [])):=⟨_,rfl⟩
 have key:=hseq (B+1) J W1 b1 (λk X Y row hs hgr hr=>by
     rw[hJ]at hs ⊢;have U:∀ r,row=some r->∃ o:Obj,X.heap[r]?=some o/\o.isWalk=true:=λr e=>(hr r e).2;refine⟨hI k X Y row hs.1 hgr (λr e=>?_),(grownBy_keeps hgr U hs.2.1 rfl).trans hs.2.1,(grownBy_keeps hgr U hs.2.2 rfl).trans hs.2.2⟩;obtain⟨hl,o,ho,hw⟩:=hr r e;exact⟨by omega,o,ho,Obj.not_cells_of_walk hw⟩)
  (λk V hk hs=>by
   rw[hJ]at hs;obtain⟨hi,hl,hd⟩:=hs;have a1:B+1<V.heap.size:=(Array.getElem?_eq_some_iff.1 hl).1;have hy:=run_yield (P:=P) (args:=encs k) hl (by rw[f];exact hps k);rw[f]at hy;obtain⟨V2,T⟩:∃ X,V.putObj (B+1) (.loop { rec .ready none with state:=.busy })=X:=⟨_,rfl⟩;refine⟨fn,_,assign,body,hy,roundIn_of_wpIn hfn (hassign _ k V _ hk ⟨V2,by rw[<- T];exact run_beginRound hl (by rw[f]),?_⟩)⟩;have a2:V2.heap[B+1]?=some (.loop { rec .ready none with state:=.busy }):=by rw[<- T];exact World.putObj_heap_same a1
   have a0:V2.heap[B]?=some (.deferred (some [])):=by rw[<- T];exact(World.putObj_heap_other Gk).trans hd
   have a5:Kp V V2:=by rw[<- T];exact hKb _ _ _ _ Gk hl rfl rfl
   have a4:I k V2:=by rw[<- T];exact hI.putObj _ hi Gk hl rfl
   refine wpIn_mono (hbody _ k V2 hk a4) λe a3 V3 hq=>?_;cases e with
   | normal =>
    obtain⟨ko,kp,i3⟩:=hq;have O:=ko.same _ _ a2 rfl;have u:=run_endRound (P:=P) none O;rw[f]at u O;refine⟨_,_,u,rfl,?_,hKt (hKt a5 kp) (hKb _ _ _ _ Gk O rfl rfl)⟩;rw[hJ];refine⟨hI.putObj _ i3 Gk O rfl,?_,(World.putObj_heap_other Gk).trans (ko.same _ _ a0 rfl)⟩;rw[f];exact World.putObj_heap_same (Array.getElem?_eq_some_iff.1 O).1
   | ret=>exact hq.elim
   | exit id=>exact hq.elim
   | goto t=>exact hq.elim
   | panic ch=>exact hq.elim
   | outgrown=>exact hq.elim)
  (by rw[hJ];exact⟨i1,lp,df⟩)
 refine⟨B+1,[{ target:=.collected B,args:=#[] }],W1,{ target:=.fn (.func gf) lb,args:=#[.func (.yield (B+1)) #[] #[]] },W1,gf,#[.func (.yield (B+1)) #[] #[]]++lb,W1,?_,?_,λ_ _=>trivial,?_,λ_=>h1,?_⟩;rw[<- y,f,<- hB];exact run_enterLoop_outer _ _ _ _ _
 ·simp only[resolve,hg]
  simp[go_sem]
 ·simp[invoke,go_sem,eg]
 refine key.mono ?_;rintro e W2 ⟨⟨v,rfl⟩,hs⟩;rw[hJ]at hs;obtain⟨hi,hl,hd⟩:=hs;have u:=run_endLoop (P:=P) hl (by rw[f];simp);rw[f]at u;exact⟨none,_,u,hdone _ _ (Qd _) (hI.putObj _ hi Gk hl rfl) ((World.putObj_heap_other Gk).trans hd)⟩
def Zn2(es:List RS)(n:Nat)(k:Nat):Array Value:=#[.int .i64 ((n-1-k:Nat):Int),RS.val (rsAt es (n-1-k))]
theorem Z0e(d:Nat)(hd:1<=d)(Bs n c:Nat)(A:Option Addr)(es:List RS)(w:World)(hc:w.cell? ⟨Bs,0,none⟩=some (.slice A n c))(hL0:SL w A n c es) :
    Z21 d Tryz.prog 177 #[.pointer (some ⟨Bs,0,none⟩)] (Zn2 es n) (KpR Bs A n c es) n w:=by
 intro lp J W hW _ hY h0;have T:W.cell? ⟨Bs,0,none⟩=some (.slice A n c):=(hW.cell (Zo hc)).trans hc;have hL:SL W A n c es:=hL0.below hW;clear hW hc hL0;have V:=hL.2.1;have I:=hL.2.2.1;unfold maxLen at I;refine callsIn_of_wp Tryz.func177 rfl trivial ?_ rfl;simp only[Tryz.ntmps177,List.size_toArray,List.length_cons,List.length_nil,Nat.reduceAdd,Nat.reduceSub,Array.replicate_succ,Array.replicate_zero,List.push_toArray,List.append_toArray,List.nil_append,List.cons_append]
 gi_wp2
 gi_loopw [3] (λi wr=>∃ k:Nat,k<=n/\i=.int .i64 ((n:Int)-1-k)/\J k wr/\Hid (wr.cell? ⟨Bs,0,none⟩=some (.slice A n c))/\SL wr A n c es)
  (λi _=>(intOf i+1).toNat)
 case atStart=>exact⟨0,Nat.zero_le _,by go_num,h0,T,hL⟩
 case round =>
  obtain⟨k,hk,rfl,h,f,u⟩:=hrel;have U:=f.out;by_cases hlt:k<n
  ·obtain⟨b,o,e,rfl,he,Y⟩:=u.at_ (k:=n-1-k) Gk
   obtain⟨fn,tmps,assign,body,hy,hR⟩:=hY k wr hlt h;dsimp only[Zn2,RS.val,rsAt]at hy;rw[he,Option.getD_some]at hy;rw[show ((n-1-k:Nat):Int)=(n:Int)-1-k by omega]at hy
   gi_wp2
   refine hR.mono ?_;rintro e W3 ⟨rfl,O,y⟩;have C:=Za (y.1 f.out)
   gi_wp2
   go_roundw
   case rel=>exact⟨k+1,by omega,by go_num,O,C,y.2 u⟩
   case measure=>simp[intOf];omega
  obtain rfl:k=n:=Gk
  gi_wp2
  go_end0
  exact⟨⟨_,rfl⟩,h⟩
theorem Zeu(a:Bool)(A:Option Addr)(n c:Nat)(b:Bool)(B:Option Addr)(m d:Nat):NoLimb #[.bool a,.slice A n c,.bool b,.slice B m d]:=λi x=>by
 match i with
 | 0=>simp
 | 1=>simp
 | 2=>simp
 | 3=>simp
 | i+4=>simp
section
variable{tS tF tW tR tI tX tB t:TypeId}{w w' W0:World}{g gn gX gO Bs go2 n c base i:Nat}{A:Option Addr}{L2:List RZ}{L:List RF}{cs:Array Value}{qs part:List Rat}{xs:List Int}{cur:RS}{row:Option Nat}
theorem Ztd{neg:Bool}{A:Option Addr}{n c:Nat}{z:Int}(h:Wd w neg A n c z)(hg:w.grownBy w' row)(hr:∀ r,row=some r->∃ o:Obj,w.heap[r]?=some o/\o.isCells=false):Wd w' neg A n c z:=⟨h.1,h.2.1,Zhq h.2.2 hg hr⟩
theorem Zy0(h:FOwn tF w g qs)(hg:w.grownBy w' row)(hr:∀ r,row=some r->∃ o:Obj,w.heap[r]?=some o/\o.isCells=false):FOwn tF w' g qs:=by
 obtain⟨es,zs,h1,h2,h3⟩:=h;exact⟨es,zs,Zc9 h1 hg hr,λe he=>⟨Ztd (h2 e he).1 hg hr,Ztd (h2 e he).2 hg hr⟩,h3⟩
theorem Zyq(h:POwn tW w g xs)(hg:w.grownBy w' row)(hr:∀ r,row=some r->∃ o:Obj,w.heap[r]?=some o/\o.isCells=false):POwn tW w' g xs:=by
 obtain⟨es,h1,h2,h3⟩:=h;exact⟨es,Zc9 h1 hg hr,λe he=>⟨Zhq (h2 e he).1 hg hr,(h2 e he).2⟩,h3⟩
theorem Zz2(h:MatZ tR tW w go2 L2)(hg:w.grownBy w' row)(hr:∀ r,row=some r->∃ o:Obj,w.heap[r]?=some o/\o.isCells=false):MatZ tR tW w' go2 L2:=by
 obtain⟨⟨zs,h1⟩,h2,h3⟩:=h;exact⟨⟨zs,Zc9 h1 hg hr⟩,λr hr'=>⟨Zyq (h2 r hr').1 hg hr,(h2 r hr').2⟩,h3⟩
theorem Kept.others{G:Nat->Prop}(h:Kept G w w')(hG:∀ k,G k->∃ t cs,Blk w k t cs):KeepsOthers w w':=
 ⟨h.size,λk o hk ho=>(h.block k (Array.getElem?_eq_some_iff.1 hk).1 (λhg=>by
  obtain⟨t,cs,hb⟩:=hG k hg;unfold Blk at hb;rw[hb]at hk;cases hk;exact absurd ho (by simp[Obj.isCells]))).trans hk⟩
def EnvK(tI tX tB tR tW:TypeId)(w:World)(gn gX gO Bs go2 n:Nat)(A:Option Addr)(c:Nat)(L2:List RZ):Prop:=
 Blk w gn tI #[.int .i64 n]/\Blk w gX tX #[.slice (some ⟨gO,0,none⟩) n n]/\Blk w Bs tB #[.slice A n c]/\MatZ tR tW w go2 L2
theorem EnvK.below(h:EnvK tI tX tB tR tW w gn gX gO Bs go2 n A c L2)(hb:Below w.heap.size w w'):EnvK tI tX tB tR tW w' gn gX gO Bs go2 n A c L2:=
 ⟨Zc hb h.1,Zc hb h.2.1,Zc hb h.2.2.1,h.2.2.2.below hb⟩
theorem EnvK.own(h:EnvK tI tX tB tR tW w gn gX gO Bs go2 n A c L2)(hg:w.grownBy w' row)(hr:∀ r,row=some r->∃ o:Obj,w.heap[r]?=some o/\o.isCells=false):EnvK tI tX tB tR tW w' gn gX gO Bs go2 n A c L2:=
 ⟨Zc9 h.1 hg hr,Zc9 h.2.1 hg hr,Zc9 h.2.2.1 hg hr,Zz2 h.2.2.2 hg hr⟩
def NoT(tI tX tB tR tW t:TypeId):Prop:=tI≠t/\tX≠t/\tB≠t/\tR≠t/\tW≠t
theorem EnvK.ne(h:EnvK tI tX tB tR tW w gn gX gO Bs go2 n A c L2)(ht:NoT tI tX tB tR tW t)(hb:Blk w g t cs):gn≠g/\gX≠g/\Bs≠g/\go2≠g/\∀ r ∈ L2,r.g≠g:=by
 obtain⟨h1,h2,h3,⟨zs,h4⟩,h5,-⟩:=h;refine⟨λe=>ht.1 ?_,λe=>ht.2.1 ?_,λe=>ht.2.2.1 ?_,λe=>ht.2.2.2.1 ?_,λr hr e=>ht.2.2.2.2 ?_⟩;subst e;exact h1.type hb;subst e;exact h2.type hb;subst e;exact h3.type hb;subst e;exact h4.type hb;obtain⟨es,h6,-,-⟩:=(h5 r hr).1;rw[e]at h6;exact h6.type hb
theorem EnvK.keptG(h:EnvK tI tX tB tR tW w gn gX gO Bs go2 n A c L2)(ht:NoT tI tX tB tR tW t)(hb:Blk w g t cs)(hn:NoLimb cs)(hk:Kept (λk=>k=g) w w'):EnvK tI tX tB tR tW w' gn gX gO Bs go2 n A c L2:=by
 obtain⟨e1,e2,e3,e4,e5⟩:=h.ne ht hb;obtain⟨h1,h2,h3,h4⟩:=h;exact⟨hk.blk h1 e1,hk.blk h2 e2,hk.blk h3 e3,h4.keptG hk e4 e5 (λk hk=>⟨t,cs,hk▸hb,hn⟩)⟩
theorem EnvK.grownT(h:EnvK tI tX tB tR tW w gn gX gO Bs go2 n A c L2)(ht:NoT tI tX tB tR tW t)(hg:w.grownBy w' row)(hr:∀ k,row=some k->∃ cs,Blk w k t cs/\NoLimb cs):EnvK tI tX tB tR tW w' gn gX gO Bs go2 n A c L2:=by
 cases row with
 | none=>exact h.below ⟨hg.os,hg.tape,hg.output,hg.size,λk hk=>hg.block k hk Gh⟩
 | some k =>
  obtain⟨cs,hb,hn⟩:=hr k rfl;exact h.keptG ht hb hn ⟨hg.os,hg.tape,hg.output,hg.size,λj hj hne=>hg.block j hj (by simpa using hne)⟩
theorem EnvK.sl(h:EnvK tI tX tB tR tW w gn gX gO Bs go2 n (some ⟨go2,0,none⟩) c L2)(hl:L2.length=n)(hc:n<=c)(hm:c<=maxLen):SL w (some ⟨go2,0,none⟩) n c (L2.map RZ.rs):=by
 refine⟨by rw[Qe,hl],hc,hm,λ_=>⟨go2,0,rfl,λk e he=>?_⟩⟩;rw[Qc]at he;obtain⟨r,hr,rfl⟩:=Option.map_eq_some_iff.1 he;rw[Nat.zero_add];exact(h.2.2.2.cell hr).1
def OutK(tS tF:TypeId)(w:World)(base gO i:Nat)(L:List RF):Prop:=
 Blk w gO tS (Z5 (Qa i Za5++L.map RF.rs))/\(∀ r ∈ L,(FOwn tF w r.g r.q/\r.q.length<=r.c/\r.c<=maxLen)/\base<=r.g)/\(L.map RF.g).Nodup
theorem OutK.own(h:OutK tS tF w base gO i L)(hg:w.grownBy w' row)(hr:∀ r,row=some r->∃ o:Obj,w.heap[r]?=some o/\o.isCells=false):OutK tS tF w' base gO i L:=
 ⟨Zc9 h.1 hg hr,λr hr'=>⟨⟨Zy0 (h.2.1 r hr').1.1 hg hr,(h.2.1 r hr').1.2⟩,(h.2.1 r hr').2⟩,h.2.2⟩
def BunK(tI tX tB tR tW tS tF:TypeId)(gn gX gO Bs go2 n:Nat)(A:Option Addr)(c:Nat)(L2:List RZ)(W0:World)(i:Nat)(cur:RS)(part:List Rat)(L:List RF)(w:World):Prop:=
 EnvK tI tX tB tR tW w gn gX gO Bs go2 n A c L2/\Blk w gO tS (Z5 (Qa i Za5++cur::L.map RF.rs))/\OwnF tF w W0.heap.size cur.val part/\(∀ r ∈ L,FOwn tF w r.g r.q)/\Kept (λk=>k=gO) W0 w
theorem BunK.below(h:BunK tI tX tB tR tW tS tF gn gX gO Bs go2 n A c L2 W0 i cur part L w)(hb:Below w.heap.size w w'):BunK tI tX tB tR tW tS tF gn gX gO Bs go2 n A c L2 W0 i cur part L w':=
 ⟨h.1.below hb,Zc hb h.2.1,h.2.2.1.kept hb,λr hr=>(h.2.2.2.1 r hr).below hb,h.2.2.2.2.below hb⟩
theorem BunK.turn(h:BunK tI tX tB tR tW tS tF gn gX gO Bs go2 n A c L2 W0 i cur part L w)(ht:NoT tI tX tB tR tW tF)(hts:tS≠tF){gs:Nat}(hb:Blk w gs tF cs)(hn:NoLimb cs)(hL:∀ r ∈ L,r.g≠gs)(hc:cur.val.ownBlock≠some gs)(hg:W0.heap.size<=gs)(hk:Kept (λk=>k=gs) w w') :
    BunK tI tX tB tR tW tS tF gn gX gO Bs go2 n A c L2 W0 i cur part L w':=by
 obtain⟨h1,h2,h3,h4,h5⟩:=h;have hG:∀ k,k=gs->∃ t cs,Blk w k t cs/\NoLimb cs:=λk hk=>⟨tF,cs,hk▸hb,hn⟩;exact⟨h1.keptG ht hb hn hk,hk.blk h2 (λe=>hts (by subst e;exact h2.type hb)),h3.keptG hb hn hc hk,λr hr=>(h4 r hr).keptG hk (hL r hr) hG,h5.and hk (λk h1 h2=>by omega)⟩
theorem BunK.app(h:BunK tI tX tB tR tW tS tF gn gX gO Bs go2 n A c L2 W0 i cur part L w)(ht:NoT tI tX tB tR tW tF)(htS:NoT tI tX tB tR tW tS)(hts:tS≠tF)(hL0:∀ r ∈ L,r.g<W0.heap.size){cur':RS}{part':List Rat}
    (hg:w.grownBy w' cur.val.ownBlock) (ho:OwnF tF w' W0.heap.size cur'.val part') (hk:∀ (A:Option Addr) (n c:Nat) (l:List Nat),Lim w A n c l->Lim w' A n c l) :
    BunK tI tX tB tR tW tS tF gn gX gO Bs go2 n A c L2 W0 i cur' part' L (w'.setCell ⟨gO,i,none⟩ cur'.val):=by
 obtain⟨h1,h2,h3,h4,h5⟩:=h;have f:=h3.ownBlk;have e1:=h1.grownT ht hg (λk hk=>by obtain⟨cs,a,b,-⟩:=f k hk;exact⟨cs,a,b⟩)
 have u:cur.val.ownBlock≠some gO:=λe=>by
  obtain⟨cs,a,-,-⟩:=f gO e;exact hts (h2.type a)
 have b2:Blk w' gO tS (Z5 (Qa i Za5++cur::L.map RF.rs)):=(hg.block gO h2.lt (λe=>u e.symm)).trans h2
 have f4:∀ r ∈ L,FOwn tF w' r.g r.q:=λr hr=>(h4 r hr).grown hg (λe=>by
  have:=(f _ e).choose_spec.2.2;have:=hL0 r hr;omega) hk
 have k5:Kept (λk=>k=gO) W0 w':=h5.grownG hg (λk hk=>(f k hk).choose_spec.2.2);have o:=Zba (Qa i Za5++cur::L.map RF.rs);have kS:Kept (λk=>k=gO) w' (w'.setCell ⟨gO,i,none⟩ cur'.val):=Kept.set_ (G:=λk=>k=gO) (Kept.refl _ _) (p:=⟨gO,i,none⟩) (.inl rfl) _;have hG:∀ k,k=gO->∃ t cs,Blk w' k t cs/\NoLimb cs:=λk hk=>⟨tS,_,hk▸b2,o⟩;refine⟨e1.keptG htS b2 o kS,?_,ho.keptG b2 o (λe=>?_) kS,λr hr=>(f4 r hr).keptG kS (λe=>?_) hG,k5.trans kS⟩
 ·have:=b2.set_ i cur'.val
  rw[show cur'.val=.slice cur'.A cur'.n cur'.c from rfl,Zdr cur']at this;rw[List.set_append_right _ _ Gh,List.length_replicate,Nat.sub_self,List.set_cons_zero]at this;exact this
 ·obtain⟨cs,a,-,-⟩:=ho.ownBlk gO e
  exact hts (b2.type a)
 obtain⟨es,zs,a,-,-⟩:=f4 r hr;rw[e]at a;exact hts (b2.type a)
theorem BunK.out(h:BunK tI tX tB tR tW tS tF gn gX gO Bs go2 n A c L2 W0 i cur part L w)(hp:part ≠ [])(hO:OutK tS tF W0 base gO (i+1) L)(hb:base<=W0.heap.size):∃ r:RF,r.q=part/\OutK tS tF w base gO i (r::L):=by
 obtain⟨h1,h2,h3,h4,h5⟩:=h;rcases h3.fown with ⟨e,e2⟩|⟨g,cc,e,hg,u,o,hF⟩;exact absurd e2 hp
 have f:cur=⟨some ⟨g,0,none⟩,part.length,cc⟩:=by
   obtain⟨a,b,d⟩:=cur;simp only[RS.val,Value.slice.injEq]at e;obtain⟨rfl,rfl,rfl⟩:=e;rfl
 subst f;refine⟨⟨g,cc,part⟩,rfl,h2,λr hr=>?_,?_⟩
 ·rcases List.mem_cons.1 hr with rfl|hr
  exact⟨⟨hF,u,o⟩,Nat.le_trans hb hg⟩;exact⟨⟨h4 r hr,(hO.2.1 r hr).1.2⟩,(hO.2.1 r hr).2⟩
 rw[List.map_cons,List.nodup_cons];refine⟨λhm=>?_,hO.2.2⟩;obtain⟨r,hr,e⟩:=List.mem_map.1 hm;have h1:=(hO.2.1 r hr).1.1.lt;have h2:g=r.g:=e.symm;omega
end
