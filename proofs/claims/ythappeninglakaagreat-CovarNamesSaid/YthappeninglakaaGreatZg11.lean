/- The reference's copied, with rows that may grow. -/
import Derived.RangeFuncNested
import Derived.Lib.SlBuf
import Derived.Test.YthappeninglakaaGreatZg10
set_option maxRecDepth 100000
set_option maxHeartbeats 8000000
set_option linter.unusedSimpArgs false
set_option linter.unusedVariables false
namespace Go.Proofs.YthappeninglakaaGreat
open Go.RowKit
open List renaming replicate→Qa,getElem?_append_right→Qe,getElem?_append_left→Qf,getElem?_eq_getElem→Qg,length_map→Qh,map_append→Qi,length_append→Qk,mem_of_getElem?→Qm,eq_nil_of_length_eq_zero→Qo,getElem?_replicate→Qs,length_singleton→Qt,getElem?_eq_none→Qu,take_append_drop→Qv,mem_singleton→Qx,size_toArray→Qz,ext_getElem?→QA,getElem?_map→QC,length_take→QD,all_eq_true→QE,nil_append→QF,range→QG,append_nil→QH
open Below renaming refl→Qb
open And renaming intro→Qc
open Nat renaming le_refl→Qd,le_trans→Qj,sub_self→Ql,min_eq_left→Qn,lt_of_lt_of_le→Qp,min→QI
open Act renaming put→Qq
open World renaming size_alloc→Qr
open Rat renaming divInt→Qw
open Blk renaming new→Qy
open Int renaming toNat_natCast→QB
attribute [local go_sem] Zg
def MatOA(tS tF:TypeId)(w:World)(base:Nat)(v:Value)(rs:List RS)(Q:List (List Rat)):Prop:=
 RowS tS w base v rs/\rs.length=Q.length/\(∀ (i:Nat) (r:RS),rs[i]?=some r->OwnF tF w base r.val (Q[i]?.getD [])) /\
  ∀ (i j:Nat) (r s:RS) (k:Nat),rs[i]?=some r->rs[j]?=some s->i≠j->r.val.ownBlock=some k->s.val.ownBlock≠some k
section
variable{tS tF:TypeId}{w w':World}{base:Nat}{v v':Value}{rs:List RS}{Q:List (List Rat)}
theorem MatOA.nil(tS tF:TypeId)(w:World)(base:Nat):MatOA tS tF w base (.slice none 0 0) [] []:=⟨.inl ⟨rfl,rfl⟩,rfl,λi r hr=>(by cases hr),λi j r s k hr=>(by cases hr)⟩
theorem MatOA.kept(h:MatOA tS tF w base v rs Q)(hb:Below w.heap.size w w'):MatOA tS tF w' base v rs Q:=⟨h.1.kept hb,h.2.1,λi r hr=>(h.2.2.1 i r hr).kept hb,h.2.2.2⟩
theorem OwnF.grownT(hts:tS≠tF){q:List Rat}{b:Nat}{u:Value}(h:OwnF tF w b u q){rs:List RS}(hv:RowS tS w base v rs)(hg:w.grownBy w' v.ownBlock)(hk:∀ (A:Option Addr) (n c:Nat) (l:List Nat),Lim w A n c l->Lim w' A n c l):OwnF tF w' b u q:=by
 obtain⟨es,e1,e2,e3⟩:=h;refine⟨es,?_,λe he=>⟨⟨(e2 e he).1.1,(e2 e he).1.2.1,hk _ _ _ _ (e2 e he).1.2.2⟩,⟨(e2 e he).2.1,(e2 e he).2.2.1,hk _ _ _ _ (e2 e he).2.2.2⟩⟩,e3⟩;rcases e1 with e1|⟨g2,sp,e4,e5,e6,e7⟩;exact .inl e1;exact .inr ⟨g2,sp,e4,e5,e6,(hg.block g2 e7.lt (λe=>hv.ownType e7 hts e.symm)).trans e7⟩
theorem OwnF.lower{b b':Nat}{u:Value}{q:List Rat}(h:OwnF tF w b u q)(hb:b'<=b):OwnF tF w b' u q:=by
 obtain⟨es,e1,e2,e3⟩:=h;refine⟨es,?_,e2,e3⟩;rcases e1 with e1|⟨g2,sp,e4,e5,e6,e7⟩;exact .inl e1;exact .inr ⟨g2,sp,e4,Qj hb e5,e6,e7⟩
theorem MatOA.snoc(h:MatOA tS tF w base v rs Q)(hts:tS≠tF){r:RS}{q:List Rat}{b:Nat}(ho:OwnF tF w b r.val q)(hb:base<=b)(hlt:∀ s ∈ rs,∀ k,s.val.ownBlock=some k->k<b)(h1:RowS tS w' base v' (rs ++ [r]))(hg:w.grownBy w' v.ownBlock)(hk:∀ (A:Option Addr) (n c:Nat) (l:List Nat),Lim w A n c l->Lim w' A n c l) :
    MatOA tS tF w' base v' (rs ++ [r]) (Q ++ [q]):=by
 obtain⟨a1,a2,a3,a4⟩:=h;refine⟨h1,by simp[a2],λi s hs=>?_,λi j s t k hs ht hij hsk=>?_⟩
 ·by_cases hi:i<rs.length
  ·rw[Qf hi]at hs
   rw[Qf (by omega)];exact(a3 i s hs).grownT hts a1 hg hk
  ·have hl:=(List.getElem?_eq_some_iff.1 hs).1
   rw[Qk,Qt]at hl;obtain rfl:i=rs.length:=by omega
   rw[Qe (Qd _),Ql]at hs;cases hs;rw[Qe (by omega),a2,Ql];exact(ho.lower hb).grownT hts a1 hg hk
 ·have new:∀ (x:RS) (k:Nat),x ∈ rs->x.val.ownBlock=some k->r.val.ownBlock≠some k:=λx k hx hxk e=>by
    have h2:=hlt x hx k hxk;obtain⟨cs,-,-,h3⟩:=ho.ownBlk k e;omega
  have o:=(List.getElem?_eq_some_iff.1 hs).1;have f:=(List.getElem?_eq_some_iff.1 ht).1;rw[Qk,Qt]at o f;by_cases hi:i<rs.length
  ·rw[Qf hi]at hs
   by_cases hj:j<rs.length
   ·rw[Qf hj]at ht
    exact a4 i j s t k hs ht hij hsk
   ·obtain rfl:j=rs.length:=by omega
    rw[Qe (Qd _),Ql]at ht;cases ht;exact new s k (Qm hs) hsk
  ·obtain rfl:i=rs.length:=by omega
   rw[Qe (Qd _),Ql]at hs;cases hs;rw[Qf (by omega)]at ht;exact λe=>new t k (Qm ht) e hsk
end
open Go.RowKit Go.Shelf
attribute [local go_sem] Oper.semAt_some
def rsAt(es:List RS)(k:Nat):RS:=es[k]?.getD ⟨none,0,0⟩
def SL(w:World)(A:Option Addr)(n c:Nat)(es:List RS):Prop:=
 es.length=n/\n<=c/\c<=maxLen/\(0<n->∃ g o,A=some ⟨g,o,none⟩/\∀ (k:Nat) (e:RS),es[k]?=some e->w.cell? ⟨g,o+k,none⟩=some (.slice e.A e.n e.c))
theorem SL.below{w w':World}{A:Option Addr}{n c:Nat}{es:List RS}(h:SL w A n c es)(hb:Below w.heap.size w w'):SL w' A n c es:=
 ⟨h.1,h.2.1,h.2.2.1,λhn=>by
  obtain⟨b,o,e,hc⟩:=h.2.2.2 hn;exact⟨b,o,e,λk x hx=>Zb hb (hc k x hx)⟩⟩
theorem SL.at_{w:World}{A:Option Addr}{n c:Nat}{es:List RS}(h:SL w A n c es){k:Nat}(hk:k<n):∃ b o e,A=some ⟨b,o,none⟩/\es[k]?=some e/\w.cell? ⟨b,o+k,none⟩=some (.slice e.A e.n e.c):=by
 obtain⟨h1,-,-,h4⟩:=h;obtain⟨b,o,e,hc⟩:=h4 (by omega);have he:=Qg (l:=es) (i:=k) (by omega);exact⟨b,o,es[k],e,he,hc k _ he⟩
theorem sl_kept{W W':World}{row:Option Nat}{A:Option Addr}{n c:Nat}{es:List RS}(h:SL W A n c es)(hg:W.grownBy W' row)(hrow:∀ r,row=some r->∃ o:Obj,W.heap[r]?=some o/\o.isCells=false):SL W' A n c es:=
 ⟨h.1,h.2.1,h.2.2.1,λhn=>by
  obtain⟨b,o,e,hc⟩:=h.2.2.2 hn;exact⟨b,o,e,λk x hx=>cell_kept (hc k x hx) hg hrow⟩⟩
def KpR(Bs:Nat)(A:Option Addr)(n c:Nat)(es:List RS)(W W':World):Prop:=
 (W.cell? ⟨Bs,0,none⟩=some (.slice A n c)->W'.cell? ⟨Bs,0,none⟩=some (.slice A n c))/\(SL W A n c es->SL W' A n c es)
theorem KpR.trans{Bs n c:Nat}{A:Option Addr}{es:List RS}{W1 W2 W3:World}(h:KpR Bs A n c es W1 W2)(k:KpR Bs A n c es W2 W3):KpR Bs A n c es W1 W3:=⟨λx=>k.1 (h.1 x),λx=>k.2 (h.2 x)⟩
theorem KpR.put{Bs n c:Nat}{A:Option Addr}{es:List RS}(W:World)(lp:Nat)(o o':Obj)(ho:W.heap[lp]?=some o)(hc:o.isCells=false):KpR Bs A n c es W (W.putObj lp o'):=
 ⟨λh=>cell_kept h (grownBy_putObj' W lp o') (λr e=>by cases e;exact⟨o,ho,hc⟩),λh=>sl_kept h (grownBy_putObj' W lp o') (λr e=>by cases e;exact⟨o,ho,hc⟩)⟩
theorem Zxv(A:Option Addr)(n c:Nat)(w:World) :
    Calls Tryz.prog 129 #[.slice A n c] w λe w'=>e=.returned (.func (.func 177) #[] #[.pointer (some ⟨w.heap.size,0,none⟩)])/\w.alloc (.cells #[.slice A n c] 149)=w':=by
 go_enter Tryz.func129,Tryz.ntmps129
 go_wp2
 go_ret;exact⟨rfl,rfl⟩
def Z0q(d:Nat)(P:Program)(gf:Nat)(lb:Array Value)(encs:Nat->Array Value)(Kp:World->World->Prop)(N:Nat)(w:World):Prop:=
 ∀ (l:Nat) (J:Nat->World->Prop) (W:World),Below w.heap.size w W->AbidesFrom W.heap.size J ->
  (∀ k V,k<N->J k V->YieldAt Fence.wide (d-1) P l (encs k) V λe V'=>e=.returned (.bool true)/\J (k+1) V'/\Kp V V') ->
  J 0 W->CallsIn Fence.wide d P gf (#[.func (.yield l) #[] #[]]++lb) W λe V'=>(∃ v,e=.returned v)/\J N V'
def goesOn(Kp:World->World->Prop)(J:World->Prop)(W:World):Exit->Act->World->Prop
 | .normal,_,W'=>KeepsOthers W W'/\Kp W W'/\J W'
 | .ret,_,_=>False
 | .exit _,_,_=>False
 | .goto _,_,_=>False
 | .panic _,_,_=>False
 | .outgrown,_,_=>False
theorem Znn{d:Nat}{P:Program}{g:Operand}{ps:Array Tmp}{assign body:Code}{Q:Exit->Act->World->Prop}{a:Act}{w:World}(h1:1<=d){gf:Nat}{lb:Array Value}
    (hg:a.eval g=.func (.func gf) #[] lb) (eg:∀ args w,(callFunc gf args).run P w=.ok (.enter gf args) w)
    {encs:Nat->Array Value} {Kp:World->World->Prop} {N:Nat} {w0:World} (hseq:Z0q (d-1) P gf lb encs Kp N w0)
    (hKt:∀ {A B C:World},Kp A B->Kp B C->Kp A C) (hKb:∀ (W:World) (l:Nat) (o o':Obj),w.heap.size<=l->W.heap[l]?=some o->o.isCells=false->o.isWalk=false->Kp W (W.putObj l o')) (hb0:Below w0.heap.size w0 w) (hps:∀ k,(encs k).size=ps.size)
    (I:Nat->World->Prop) (hI:OwnFrom w.heap.size I) (h0:I 0 w) (a₁:Nat->Act)
    (hassign:∀ (l k:Nat) (W:World) (K:Act->World->Prop),k<N->K (a₁ k) W ->
     assign.wpIn (Fence.wide.inRound l) (d-1-1) P (Exit.then K (λ_ _ _=>False)) { tmps:=(ps.zip (encs k)).foldl (λt (p,v)=>t.setIfInBounds p v) a.tmps,defers:=[] } W)
    (hbody:∀ (l k:Nat) (W:World),k<N->I k W->body.wpIn (Fence.wide.inRound l) (d-1-1) P (goesOn Kp (I (k+1)) W) (a₁ k) W)
    (hdone:∀ (D:Nat) (W:World),w.heap.size<=D->I N W->W.heap[D]?=some (.deferred (some []))->Q .normal { a with defers:={ target:=.collected D,args:=#[] } :: a.defers } W) :
    (Code.rangeFunc g ps assign body).wpIn Fence.wide d P Q a w:=by
 refine wpIn_rangeFunc λfn hfn=>?_;rw[show Fence.wide.round=none from rfl];obtain⟨B,hB⟩:=Gz w.heap.size;rw[hB]at hI hKb hdone;obtain⟨rec,f⟩:∃ rec:LoopState->Option Code->Loop,rec=λst pe=>{ state:=st,pending:=pe,fn,tmps:=a.tmps,params:=ps,assign,body,defers:=B }:=⟨_,rfl⟩;obtain⟨W1,y⟩:=Gz ((w.alloc (.deferred (some []))).alloc (.loop (rec .ready none)));have sz:W1.heap.size=B+1+1:=by rw[<- y,<- hB];simp
 have lp:W1.heap[B+1]?=some (.loop (rec .ready none)):=by
  have h:=World.alloc_heap_new (w.alloc (.deferred (some []))) (.loop (rec .ready none));rw[Qr,hB,y]at h;exact h
 have df:W1.heap[B]?=some (.deferred (some [])):=by
  rw[<- y,<- hB];exact(Below.heap_alloc _ _ _ (by simp)).trans (World.alloc_heap_new w _)
 have i1:I 0 W1:=by rw[<- y];exact hI.alloc _ (hI.alloc _ h0)
 have b1:Below w0.heap.size w0 W1:=by
  rw[<- y];exact hb0.trans (((Qb _ w).alloc (Qd _) _).trans ((Qb _ _).alloc (by simp) _) |>.mono hb0.size)
 obtain⟨J,hJ⟩:∃ J:Nat->World->Prop,J=λk W=>I k W/\W.heap[B+1]?=some (.loop (rec .ready none))/\W.heap[B]?=some (.deferred (some [])):=⟨_,rfl⟩
 have key:=hseq (B+1) J W1 b1 (λk X Y row hs hgr hr=>by
     rw[hJ]at hs ⊢;have U:∀ r,row=some r->∃ o:Obj,X.heap[r]?=some o/\o.isWalk=true:=λr e=>(hr r e).2;refine⟨hI k X Y row hs.1 hgr (λr e=>?_),(grownBy_keeps hgr U hs.2.1 rfl).trans hs.2.1,(grownBy_keeps hgr U hs.2.2 rfl).trans hs.2.2⟩;obtain⟨hl,o,ho,hw⟩:=hr r e;exact⟨by omega,o,ho,Obj.not_cells_of_walk hw⟩)
  (λk V hk hs=>by
   rw[hJ]at hs;obtain⟨hi,hl,hd⟩:=hs;have a2:B+1<V.heap.size:=(Array.getElem?_eq_some_iff.1 hl).1;have hy:=run_yield (P:=P) (args:=encs k) hl (by rw[f];exact hps k);rw[f]at hy;obtain⟨V2,O⟩:∃ X,V.putObj (B+1) (.loop { rec .ready none with state:=.busy })=X:=⟨_,rfl⟩;refine⟨fn,_,assign,body,hy,roundIn_of_wpIn hfn (hassign _ k V _ hk ⟨V2,by rw[<- O];exact run_beginRound hl (by rw[f]),?_⟩)⟩;have a5:V2.heap[B+1]?=some (.loop { rec .ready none with state:=.busy }):=by rw[<- O];exact World.putObj_heap_same a2
   have a0:V2.heap[B]?=some (.deferred (some [])):=by rw[<- O];exact(World.putObj_heap_other (by omega)).trans hd
   have a4:Kp V V2:=by rw[<- O];exact hKb _ _ _ _ (by omega) hl rfl rfl
   have a1:I k V2:=by rw[<- O];exact hI.putObj _ hi (by omega) hl rfl
   refine wpIn_mono (hbody _ k V2 hk a1) λe a3 V3 hq=>?_;cases e with
   | normal =>
    obtain⟨ko,kp,i3⟩:=hq;have T:=ko.same _ _ a5 rfl;have u:=run_endRound (P:=P) none T;rw[f]at u T;refine⟨_,_,u,rfl,?_,hKt (hKt a4 kp) (hKb _ _ _ _ (by omega) T rfl rfl)⟩;rw[hJ];refine⟨hI.putObj _ i3 (by omega) T rfl,?_,(World.putObj_heap_other (by omega)).trans (ko.same _ _ a0 rfl)⟩;rw[f];exact World.putObj_heap_same (Array.getElem?_eq_some_iff.1 T).1
   | ret=>exact hq.elim
   | exit id=>exact hq.elim
   | goto t=>exact hq.elim
   | panic ch=>exact hq.elim
   | outgrown=>exact hq.elim)
  (by rw[hJ];exact⟨i1,lp,df⟩)
 refine⟨B+1,[{ target:=.collected B,args:=#[] }],W1,{ target:=.fn (.func gf) lb,args:=#[.func (.yield (B+1)) #[] #[]] },W1,gf,#[.func (.yield (B+1)) #[] #[]]++lb,W1,?_,?_,λ_ _=>trivial,?_,λ_=>h1,?_⟩;rw[<- y,f,<- hB];exact run_enterLoop_outer _ _ _ _ _
 ·simp only[resolve,hg]
  simp[go_sem]
 ·simp[invoke,go_sem,eg]
 ·refine key.mono ?_
  rintro e W2 ⟨⟨v,rfl⟩,hs⟩;rw[hJ]at hs;obtain⟨hi,hl,hd⟩:=hs;have u:=run_endLoop (P:=P) hl (by rw[f];simp);rw[f]at u;exact⟨none,_,u,hdone _ _ (Qd _) (hI.putObj _ hi (by omega) hl rfl) ((World.putObj_heap_other (by omega)).trans hd)⟩
def Znc(es:List RS)(n:Nat)(k:Nat):Array Value:=#[.int .i64 ((n-1-k:Nat):Int),RS.val (rsAt es (n-1-k))]
theorem Zx8(d:Nat)(hd:1<=d)(Bs n c:Nat)(A:Option Addr)(es:List RS)(w:World)(hc:w.cell? ⟨Bs,0,none⟩=some (.slice A n c))(hL0:SL w A n c es) :
    Z0q d Tryz.prog 177 #[.pointer (some ⟨Bs,0,none⟩)] (Znc es n) (KpR Bs A n c es) n w:=by
 intro lp J W hW _ hY h0;have I:W.cell? ⟨Bs,0,none⟩=some (.slice A n c):=(hW.cell (Zo hc)).trans hc;have hL:SL W A n c es:=hL0.below hW;clear hW hc hL0;have V:=hL.2.1;have O:=hL.2.2.1;unfold maxLen at O;refine callsIn_of_wp Tryz.func177 rfl trivial ?_ rfl;simp only[Tryz.ntmps177,Qz,List.length_cons,List.length_nil,Nat.reduceAdd,Nat.reduceSub,Array.replicate_succ,Array.replicate_zero,List.push_toArray,List.append_toArray,QF,List.cons_append]
 gi_wp2
 gi_loopw [3] (λi wr=>∃ k:Nat,k<=n/\i=.int .i64 ((n:Int)-1-k)/\J k wr/\Hid (wr.cell? ⟨Bs,0,none⟩=some (.slice A n c))/\SL wr A n c es)
  (λi _=>(intOf i+1).toNat)
 case atStart=>exact⟨0,Nat.zero_le _,by go_num,h0,I,hL⟩
 case round =>
  obtain⟨k,hk,rfl,u,f,y⟩:=hrel;have Y:=f.out;by_cases hlt:k<n
  ·obtain⟨b,o,e,rfl,he,U⟩:=y.at_ (k:=n-1-k) (by omega)
   obtain⟨fn,tmps,assign,body,hy,hR⟩:=hY k wr hlt u;dsimp only[Znc,RS.val,rsAt]at hy;rw[he,Option.getD_some]at hy;rw[show ((n-1-k:Nat):Int)=(n:Int)-1-k by omega]at hy
   gi_wp2
   refine hR.mono ?_;rintro e W3 ⟨rfl,T,h⟩;have C:=Za (h.1 f.out)
   gi_wp2
   go_roundw
   case rel=>exact⟨k+1,by omega,by go_num,T,C,h.2 y⟩
   case measure=>simp[intOf];omega
  ·obtain rfl:k=n:=by omega
   gi_wp2
   go_end0
   exact⟨⟨_,rfl⟩,u⟩
theorem Zts(na:Bool)(A B:Option Addr)(n c m d:Nat)(za zb:Int)(w:World)(ha:Wd w na A n c za)(hb:Wd w true B m d zb)(h0:zb<0) :
    Calls Tryz.prog 157 #[.agg #[.bool na,.slice A n c],.agg #[.bool true,.slice B m d]] w (Zfj w (Qw za zb)):=by
 have g5:=Ze3 ha.small hb.small;have hx:=Za (Zls (a:=za) (b:=zb) (by omega));have hy:=Za (Zlm (a:=za) (b:=zb) (by omega));have b0:=Za (Zpk (a:=za) (b:=zb) (by omega));have e2:Zhb za zb=-((Nat.gcd za.natAbs zb.natAbs:Nat):Int):=by unfold Zhb;rw[Gx h0]
 rw[e2]at hx hy b0;have HA:=Za ha;have HB:=Za hb;obtain⟨G,hG⟩:=Gz (Nat.gcd za.natAbs zb.natAbs);rw[hG]at hx hy b0 g5
 have HGc:Hid (∀ W:World,Wd W na A n c za->Wd W true B m d zb->Calls Tryz.prog 151 #[.agg #[.bool na,.slice A n c],.agg #[.bool true,.slice B m d]] W (ResW W (G:Int))):=λW h1 h2=>by
  have:=Zkj na true A B n c m d za zb W h1 h2;rw[hG]at this;exact this
 generalize Qw za zb=R at *;clear ha hb hG e2;have b6:∀ X Y Z:Obj,Below w.heap.size w (((w.alloc X).alloc Y).alloc Z):=λX Y Z=>(((Qb w.heap.size w).alloc (Qd _) _).alloc (by simp) _).alloc (by simp;omega) _;have b6:=Za b6;go_enter Tryz.func157,Tryz.ntmps157;go_wp2_with fail;have q0:Blk (((w.alloc (.cells #[.bool na,.slice A n c] 39)).alloc (.cells #[.bool true,.slice B m d] 39)).alloc (.cells #[.bool false,.slice none 0 0,.bool false,.slice none 0 0] 41)) w.heap.size 39 #[.bool na,.slice A n c]:=((Qy _ _ _).alloc _).alloc _
 have q1:Blk (((w.alloc (.cells #[.bool na,.slice A n c] 39)).alloc (.cells #[.bool true,.slice B m d] 39)).alloc (.cells #[.bool false,.slice none 0 0,.bool false,.slice none 0 0] 41)) (w.heap.size+1) 39 #[.bool true,.slice B m d]:=by
  have:=(Qy (w.alloc (.cells #[.bool na,.slice A n c] 39)) 39 #[.bool true,.slice B m d]).alloc (.cells #[.bool false,.slice none 0 0,.bool false,.slice none 0 0] 41);simp only[Qr]at this;exact this
 have q2:Blk (((w.alloc (.cells #[.bool na,.slice A n c] 39)).alloc (.cells #[.bool true,.slice B m d] 39)).alloc (.cells #[.bool false,.slice none 0 0,.bool false,.slice none 0 0] 41)) (w.heap.size+1+1) 41 #[.bool false,.slice none 0 0,.bool false,.slice none 0 0]:=by
  have:=Qy ((w.alloc (.cells #[.bool na,.slice A n c] 39)).alloc (.cells #[.bool true,.slice B m d] 39)) 41 #[.bool false,.slice none 0 0,.bool false,.slice none 0 0];simp only[Qr]at this;exact this
 refine(HGc.out _ (((HA.out.alloc _).alloc _).alloc _) (((HB.out.alloc _).alloc _).alloc _)).mono ?_;rintro e w1 ⟨J,ng,Ag,kg,cg,code,rfl,hR⟩;rcases hR with ⟨-,rfl,e1⟩|⟨d7,-⟩
 case inr=>exact absurd d7 (by omega)
 have a6:Below w.heap.size w w1:=(b6.out _ _ _).trans (J.mono (by simp;omega));have e7:=Za (HA.out.below a6);have d4:=Za (HB.out.below a6);have s1:w.heap.size+1+1<w1.heap.size:=by have:=J.size;simp at this;omega
 replace q0:=Zc J q0;replace q1:=Zc J q1;replace q2:=Zc J q2;obtain⟨a3,a9,-,-⟩:=q0.two;obtain⟨y,C,-,-⟩:=q1.two;have hq:=Za (Qc q0 (Qc q1 q2));clear q0 q1 q2 J;go_wp2_with fail;refine(Zdy ng Ag kg cg _).mono ?_;rintro e w2 ⟨rfl,o⟩;have e9:Below w.heap.size w w2:=a6.trans (o.mono a6.size);have e6:=Za (e7.out.below o);have d8:=Za (d4.out.below o);have d6:=Za (e1.below o);have s2:w.heap.size+1+1<w2.heap.size:=by have:=o.size;omega
 have q0:=Zc o hq.out.1;have q1:=Zc o hq.out.2.1;have q2:=Zc o hq.out.2.2;clear a3 a9 y C a6 o e1 e7 d4 hq;obtain⟨W3,T,f9,q3,kW,kB,s3⟩:=Zr 39 #[.bool ng,.slice Ag kg cg] e9 (by omega);replace q0:=kB _ _ _ q0;replace q1:=kB _ _ _ q1;replace q2:=kB _ _ _ q2;have f7:=Za (kW _ _ _ _ _ e6.out);have e5:=Za (kW _ _ _ _ _ d8.out);have b5:=Za (kW _ _ _ _ _ d6.out);have s4:w.heap.size+1+1<w2.heap.size:=s2;clear kW kB e6 d8 d6 e9;have c0:=Za q0.two;have c1:=Za q1.two;have c3:=Za q3.two;rw[<- T]at c0 c1 c3;obtain⟨a3,a9,-,-⟩:=c0.out;obtain⟨y,C,-,-⟩:=c1.out;obtain⟨a5,a1,-,-⟩:=c3.out;have hq:=Za (Qc q0 (Qc q1 (Qc q2 q3)));clear q0 q1 q2 q3;replace T:=Za T;go_wp2_with fail;rw[T.out];refine(Neg_ok ng Ag kg cg G W3 b5.out).mono ?_;rintro e w4 ⟨h,n5,A5,k5,c5,code,rfl,hR⟩;have b2:(-(G:Int)).natAbs<pw 4096:=by rw[Int.natAbs_neg];exact b5.out.small
 have f8:=Za (hR.small b2);have b8:=hR.code0 b2;subst b8;have V:Below w.heap.size w w4:=f9.trans (h.mono (by omega));have e3:=Za (f7.out.below h);have a2:=Za (e5.out.below h);have s5:w2.heap.size+1<=w4.heap.size:=by have:=h.size;omega
 have q0:=Zc h hq.out.1;have q1:=Zc h hq.out.2.1;have q2:=Zc h hq.out.2.2.1;have q3:=Zc h hq.out.2.2.2;clear h c0 c1 c3 a3 a9 y C a5 a1 T f7 e5 b5 f9 hq hR b2;have hq:=Za (Qc q0 (Qc q1 (Qc q2 q3)));clear q0 q1 q2 q3;go_wp2_with fail;refine(Zdy n5 A5 k5 c5 _).mono ?_;rintro e w5 ⟨rfl,f⟩;have a4:Below w.heap.size w w5:=V.trans (f.mono (by omega));have c9:=Za (e3.out.below f);have a7:=Za (a2.out.below f);have e8:=Za (f8.out.below f);have s6:w4.heap.size<=w5.heap.size:=f.size;have q0:=Zc f hq.out.1;have q1:=Zc f hq.out.2.1;have q2:=Zc f hq.out.2.2.1;have q3:=Zc f hq.out.2.2.2;clear f e3 a2 f8 V hq;obtain⟨W7,a8,a0,b1,kW,kB,s7⟩:=Zas n5 A5 k5 c5 a4 (by omega) q3;replace q0:=kB _ _ _ (by omega) q0;replace q1:=kB _ _ _ (by omega) q1;replace q2:=kB _ _ _ (by omega) q2;have f5:=Za (kW _ _ _ _ _ c9.out);have f6:=Za (kW _ _ _ _ _ a7.out);have c4:=Za (kW _ _ _ _ _ e8.out);obtain⟨h3,g8,g4,g9⟩:=q3.two;have c0:=Za q0.two;have c1:=Za q1.two;have c3:=Za b1.two;obtain⟨a3,a9,-,-⟩:=c0.out;obtain⟨y,C,-,-⟩:=c1.out;obtain⟨a5,a1,-,-⟩:=c3.out;have hq:=Za (Qc q0 (Qc q1 (Qc q2 b1)));clear q0 q1 q2 q3 b1 kW kB c9 a7 e8 a4;replace a8:=Za a8;have d9:=a8.out;go_wp2_with fail;(try rw[a8.out]);clear h3 g8 g4 g9 d9;refine(Zf8 na n5 A A5 n c k5 c5 za (-(G:Int)) _ f5.out c4.out b0.out).mono ?_;rintro e w9 ⟨u,nx,Ax,kx,cx,nr,Ar,kr,cr,rfl,b3,-⟩
 rw[hx.out]at b3;have V:Below w.heap.size w w9:=a0.trans (u.mono (by omega));have a2:=Za (f6.out.below u);have f4:=Za (c4.out.below u);have s8:w2.heap.size+1<=w9.heap.size:=by have:=u.size;omega
 have q1:=Zc u hq.out.2.1;have q2:=Zc u hq.out.2.2.1;have q3:=Zc u hq.out.2.2.2;clear u c0 c1 c3 a3 a9 y C a5 a1 a8 f5 f6 c4 a0 hq;obtain⟨W5,c6,a4,q5,kW,kB,s6⟩:=Zr 39 #[.bool nx,.slice Ax kx cx] V (by omega);replace q1:=kB _ _ _ q1;replace q2:=kB _ _ _ q2;replace q3:=kB _ _ _ q3;have a7:=Za (kW _ _ _ _ _ a2.out);have d5:=Za (kW _ _ _ _ _ f4.out);have c7:=Za (kW _ _ _ _ _ b3);clear kW kB a2 f4 b3 V;obtain⟨W6,O,g1,-,kW,kB,s7⟩:=Zr 39 #[.bool nr,.slice Ar kr cr] a4 (by omega);replace q1:=kB _ _ _ q1;replace q2:=kB _ _ _ q2;replace q3:=kB _ _ _ q3;replace q5:=kB _ _ _ q5;have e0:=Za (kW _ _ _ _ _ a7.out);have f3:=Za (kW _ _ _ _ _ d5.out);have d0:=Za (kW _ _ _ _ _ c7.out);clear kW kB a7 d5 c7 a4;have c1:=Za q1.two;have c3:=Za q3.two;rw[<- O,<- c6]at c1 c3;obtain⟨y,C,-,-⟩:=c1.out;obtain⟨a5,a1,-,-⟩:=c3.out;have hq:=Za (Qc q2 q5);clear q1 q2 q3 q5;rw[<- c6]at O;replace O:=Za O;clear c6;go_wp2_with fail;rw[O.out];refine(Zf8 true n5 B A5 m d k5 c5 zb (-(G:Int)) _ e0.out f3.out b0.out).mono ?_;rintro e w7 ⟨I,ny,Ay,ky,cy,ns,As,ks,cs,rfl,b4,-⟩;rw[hy.out]at b4;have a0:Below w.heap.size w w7:=g1.trans (I.mono (by omega));have e4:=Za (d0.out.below I);have i0:w9.heap.size+2<=w7.heap.size:=by have:=I.size;omega
 have q2:=Zc I hq.out.1;have q5:=Zc I hq.out.2;clear I c1 c3 y C a5 a1 O e0 f3 d0 g1 hq;obtain⟨W8,b9,g2,q8,kW,kB,s9⟩:=Zr 39 #[.bool ny,.slice Ay ky cy] a0 (by omega);replace q2:=kB _ _ _ q2;replace q5:=kB _ _ _ q5;have f0:=Za (kW _ _ _ _ _ e4.out);have d3:=Za (kW _ _ _ _ _ b4);clear kW kB e4 b4 a0;obtain⟨W9,U,b7,-,kW,kB,i1⟩:=Zr 39 #[.bool ns,.slice As ks cs] g2 (by omega);replace q2:=kB _ _ _ q2;replace q5:=kB _ _ _ q5;replace q8:=kB _ _ _ q8;have g7:=Za (kW _ _ _ _ _ f0.out);have g6:=Za (kW _ _ _ _ _ d3.out);clear kW kB f0 d3 g2;have c5:=Za q5.two;have c8:=Za q8.two;have c2:=Za q2.four;have hq:=Za q2;rw[<- U,<- b9]at c5 c8 c2;rw[<- b9]at U;clear b9 q2 q5 q8;obtain⟨i3,h9,-,-⟩:=c5.out;obtain⟨i5,h8,-,-⟩:=c8.out;obtain⟨i4,i6,h6,i7,h5,h4,h7,i2⟩:=c2.out;replace U:=Za U;replace b7:=Za b7;go_wp2_with fail;rw[U.out];obtain⟨W,hW,hB,g0,kW,-⟩:=Zal nx Ax kx cx ny Ay ky cy b7.out (by omega) hq.out;rw[hW];obtain⟨r0,r1,r2,r3,-⟩:=g0.four;refine bodyPost_ret (v:=.agg #[.bool nx,.slice Ax kx cx,.bool ny,.slice Ay ky cy]) (by simp[results,Tryz.results157,go_sem,r0,r1,r2,r3]) rfl ?_;exact⟨hB,_,_,_,_,_,_,_,_,rfl,kW _ _ _ _ _ g7.out,kW _ _ _ _ _ g6.out⟩
theorem Zs1(na nb:Bool)(A B:Option Addr)(n c m d:Nat)(za zb:Int)(w:World)(ha:Wd w na A n c za)(hb:Wd w nb B m d zb)(h0:zb≠0) :
    Calls Tryz.prog 157 #[.agg #[.bool na,.slice A n c],.agg #[.bool nb,.slice B m d]] w (Zfj w (Qw za zb)):=by
 by_cases hn:zb<0
 ·have:nb=true:=by rw[hb.1];exact Gv hn
  subst this;exact Zts na A B n c m d za zb w ha hb hn
 ·have:nb=false:=by rw[hb.1];exact Gu hn
  subst this;exact Zi1 na A B n c m d za zb w ha hb (by omega)
theorem Zy8(F:FuncId)(na nb na' nb':Bool)(A B A' B':Option Addr)(n c m d n' c' m' d':Nat)(a b:Rat)(X Y:Int)(w:World)(ha:Fr w na A n c nb B m d a)(hb:Fr w na' A' n' c' nb' B' m' d' b)(hY:Y≠0)(hcf:∀ (x y:Value) (W:World),(callFunc F #[x,y]).run Tryz.prog W=.ok (.enter F #[x,y]) W)
    (hF:∀ W:World,Fr W na A n c nb B m d a->Fr W na' A' n' c' nb' B' m' d' b->Calls Tryz.prog F #[.agg #[.bool na,.slice A n c,.bool nb,.slice B m d],.agg #[.bool na',.slice A' n' c',.bool nb',.slice B' m' d']] W (Zoj W X Y)) :
    Calls Tryz.prog 130 #[.agg #[.bool na,.slice A n c,.bool nb,.slice B m d],.agg #[.bool na',.slice A' n' c',.bool nb',.slice B' m' d'],.func (.func F) #[] #[]] w (Zir w (Qw X Y)):=by
 obtain⟨W0,O,I,⟨q0,q1,q2,q3⟩,s0⟩:=Zgf w 41 #[.bool na,.slice A n c,.bool nb,.slice B m d] 41 #[.bool na',.slice A' n' c',.bool nb',.slice B' m' d'] 41 #[.bool false,.slice none 0 0,.bool false,.slice none 0 0] 26 #[.int .i64 0];have hA:=Za (ha.below I);have hD:=Za (hb.below I);replace hF:=Za hF;clear ha hb;replace O:=Za O;obtain⟨a0,a1,a2,a3,-⟩:=q0.four;have hq:=Za (Qc q0 (Qc q1 (Qc q2 q3)));clear q0 q1 q2 q3
 go_enter_defers Tryz.func130,Tryz.ntmps130
 have b4:=O.out;go_wp2_with fail;clear O b4;refine(Zei na nb A B n c m d a W0 hA.out).mono ?_;rintro e w1 ⟨rfl,h⟩;have a4:Below w.heap.size w w1:=I.trans (h.mono I.size);have s1:W0.heap.size<=w1.heap.size:=h.size;replace hA:=Za (hA.out.below h);replace hD:=Za (hD.out.below h);obtain⟨q0,q1,q2,q3⟩:=hq.out;replace q0:=Zc h q0;replace q1:=Zc h q1;replace q2:=Zc h q2;replace q3:=Zc h q3;clear hq h I a0 a1 a2 a3;obtain⟨b0,b1,b2,b3,-⟩:=q1.four;have hq:=Za (Qc q0 (Qc q1 (Qc q2 q3)));clear q0 q1 q2 q3;go_wp2_with fail;refine(Zfk w1).mono ?_;rintro e w1 ⟨rfl,rfl⟩;go_wp2_with fail;refine(Zei na' nb' A' B' n' c' m' d' b w1 hD.out).mono ?_;rintro e w2 ⟨rfl,o⟩;have T:Below w.heap.size w w2:=a4.trans (o.mono a4.size);have s2:w1.heap.size<=w2.heap.size:=o.size;replace hA:=Za (hA.out.below o);replace hD:=Za (hD.out.below o);obtain⟨q0,q1,q2,q3⟩:=hq.out;replace q0:=Zc o q0;replace q1:=Zc o q1;replace q2:=Zc o q2;replace q3:=Zc o q3;clear hq o a4 b0 b1 b2 b3;obtain⟨a0,a1,a2,a3,-⟩:=q0.four;obtain⟨b0,b1,b2,b3,-⟩:=q1.four;have hq:=Za (Qc q2 q3);clear q0 q1 q2 q3;go_wp2_with fail;refine(Zfk w2).mono ?_;rintro e w2 ⟨rfl,rfl⟩;go_wp2_with fail;refine(hF.out w2 hA.out hD.out).mono ?_;rintro e w3 ⟨J,nu,U,k1,u,nv,V,k2,v,rfl,hU,hV⟩;have a5:Below w.heap.size w w3:=T.trans (J.mono T.size);have s3:w2.heap.size<=w3.heap.size:=J.size;have q2:=Zc J hq.out.1;have q3:=Zc J hq.out.2
 clear hq J T a0 a1 a2 a3 b0 b1 b2 b3 hA hD hF;have hq:=Za (Qc q2 q3);replace hU:=Za hU;replace hV:=Za hV;clear q2 q3;go_wp2_with fail;refine(Zs1 nu nv U V k1 u k2 v X Y w3 hU.out hV.out hY).mono ?_;rintro e w4 ⟨C,nx,Ax,kx,cx,ny,Ay,ky,cy,rfl,hF⟩;have c4:Below w.heap.size w w4:=a5.trans (C.mono a5.size);have s4:w3.heap.size<=w4.heap.size:=C.size;have q2:=Zc C hq.out.1;have q3:=Zc C hq.out.2;clear hq C hU hV a5;have c2:=Za q2.four;have c3:=q3.cell 0;have f3:=q3.frozen 0;simp at c3;obtain⟨c6,c7,b9,c9,b7,b6,c1,c5⟩:=c2.out;have hq:=Za (Qc q2 q3);clear q2 q3;go_wp2_with fail;obtain⟨W5,b5,a8,q2,kW,kB,s5⟩:=Zal nx Ax kx cx ny Ay ky cy c4 (by omega) hq.out.1;have q3:=kB _ _ _ (by omega) hq.out.2;have a6:=Za (kW _ _ _ _ _ hF.1);have a7:=Za (kW _ _ _ _ _ hF.2);rw[b5];clear kW kB c6 c7 b9 c9 c3 f3 b7 b6 c1 c5 hq hF;obtain⟨W6,a9,c8,q3,kW,kB,s6⟩:=Zy 0 a8 (by omega) q3;replace q2:=kB _ _ _ (by omega) q2;have c0:=Za (kW _ _ _ _ _ a6.out);have b8:=Za (kW _ _ _ _ _ a7.out);rw[a9];obtain⟨r0,r1,r2,r3,-⟩:=q2.four;have r4:=q3.cell 0;simp at r4;clear kW kB a8 a6 a7 b5 a9;refine leaves_cons (f:=147) (args:=#[.pointer (some ⟨w.heap.size+1+1+1,0,none⟩)]) (by simp) (by simp[go_sem]) ?_;refine(Zg2 _ _).mono ?_;rintro e u' w'' ⟨rfl,rfl,rfl⟩;refine⟨.tuple #[.agg #[.bool nx,.slice Ax kx cx,.bool ny,.slice Ay ky cy],.int .i64 0],by simp[results,Tryz.results130,go_sem,r0,r1,r2,r3,r4],?_⟩;exact⟨c8,_,_,_,_,_,_,_,_,rfl,c0.out,b8.out⟩
theorem Zti(x y:Value)(W:World):(callFunc 155 #[x,y]).run Tryz.prog W=.ok (.enter 155 #[x,y]) W:=by simp[go_sem]
theorem Div1_ok(na nb na' nb':Bool)(A B A' B':Option Addr)(n c m d n' c' m' d':Nat)(a b:Rat)(w:World)(ha:Fr w na A n c nb B m d a)(hb:Fr w na' A' n' c' nb' B' m' d' b)
    (hs:(a.num*b.den).natAbs<pw 4096) (ht:((a.den:Int)*b.num).natAbs<pw 4096) (h0:b≠0) :
    Calls Tryz.prog 155 #[.agg #[.bool na,.slice A n c,.bool nb,.slice B m d],.agg #[.bool na',.slice A' n' c',.bool nb',.slice B' m' d']] w (Zoj w (a.num*b.den) ((a.den:Int)*b.num)):=by
 obtain⟨W0,I,C,⟨q0,q1,q2,q3⟩,s0⟩:=Zgf w 41 #[.bool na,.slice A n c,.bool nb,.slice B m d] 41 #[.bool na',.slice A' n' c',.bool nb',.slice B' m' d'] 39 #[.bool false,.slice none 0 0] 39 #[.bool false,.slice none 0 0]
 have a5:((n':Int) == 0)=false:=by
  have:n'≠0:=λe=>h0 (hb.zero_iff.1 e);simp;omega
 have hmx:=Gt
 have hA:=Za (ha.below C);have hD:=Za (hb.below C);replace hs:=Za hs;replace ht:=Za ht;have sz:=Za C.size;have hB:=Za C;clear ha hb C s0;replace q0:=Za q0;replace q1:=Za q1;replace q2:=Za q2;replace q3:=Za q3;obtain⟨a0,a1,a2,a3,-⟩:=q0.out.four;obtain⟨b0,b1,b2,b3,-⟩:=q1.out.four;replace I:=Za I;go_enter Tryz.func155,Tryz.ntmps155;go_wp2_with fail;rw[I.out];refine(Zjx na' A' n' c' W0 (Qj hD.out.1.2.1 (by decide)) false a5).mono ?_;rintro e wz ⟨rfl,u⟩;replace q0:=Za (Zc u q0.out);replace q1:=Za (Zc u q1.out);replace q2:=Za (Zc u q2.out);replace q3:=Za (Zc u q3.out);replace hA:=Za (hA.out.below u);replace hD:=Za (hD.out.below u);replace hB:=Za (hB.out.trans (u.mono sz.out));replace sz:=Za (Qj sz.out u.size);clear a0 a1 a2 a3 b0 b1 b2 b3 I u;obtain⟨a0,a1,a2,a3,-⟩:=q0.out.four;obtain⟨b0,b1,b2,b3,-⟩:=q1.out.four;go_wp2_with fail;refine Z7 [12] (λW'=>W'.cell? ⟨w.heap.size,0,none⟩=some (.bool na)/\W'.cell? ⟨w.heap.size,1,none⟩=some (.slice A n c)/\W'.cell? ⟨w.heap.size,2,none⟩=some (.bool nb)/\W'.cell? ⟨w.heap.size,3,none⟩=some (.slice B m d)/\W'.cell? ⟨w.heap.size+1,0,none⟩=some (.bool na')/\W'.cell? ⟨w.heap.size+1,1,none⟩=some (.slice A' n' c')/\W'.cell? ⟨w.heap.size+1,2,none⟩=some (.bool nb')/\W'.cell? ⟨w.heap.size+1,3,none⟩=some (.slice B' m' d')) hmx ⟨a0,a1,a2,a3,b0,b1,b2,b3⟩ (λ_=>?_);refine Zjw 6 [0,1,3,4,5,6] rfl (by kernel_rfl) ⟨a0,a1,a2,a3,b0,b1,b2,b3⟩ ?_
 iterate 6 (refine tkA ?_;try simp only[Qq,Zg4,Zgk,Zgx,Gr,Gq,Gp])
 refine tk0 ?_;refine wpAnyL_o 2 λK hK=>?_;go_simp;refine(Zff na nb na' nb' A B A' B' n c m d n' c' m' d' a b wz.drew hA.out hD.out hs.out).mono ?_;rintro e w1 ⟨h,np,P,k,q,rfl,hP⟩;replace h:=Zv h;replace hP:=Za hP;clear hs;replace q0:=Za (Zc h q0.out);replace q1:=Za (Zc h q1.out);replace q2:=Za (Zc h q2.out);replace q3:=Za (Zc h q3.out);replace hA:=Za (hA.out.below h);replace hD:=Za (hD.out.below h);replace hB:=Za (hB.out.trans (h.mono sz.out));replace sz:=Za (Qj sz.out h.size);clear a0 a1 a2 a3 b0 b1 b2 b3;obtain⟨a0,a1,a2,a3,-⟩:=q0.out.four;obtain⟨b0,b1,b2,b3,-⟩:=q1.out.four;clear h;refine hK.out _ _ (λ_=>⟨a0,a1,a2,a3,b0,b1,b2,b3⟩) ?_;clear hK K
 try simp only[Qq,Zg4,Zgk,Zgx]
 refine wpAnyL_o 7 λK hK=>?_;go_simp;refine(Zi3 nb na' B A' m d n' c' a.den b.num w1 hA.out.2 hD.out.1).mono ?_;rintro e w3 ⟨o,O,P',k',q',code,rfl,hR⟩;have y:=Za (hR.small ht.out);have T:=hR.code0 ht.out;subst T;clear ht hR;replace hP:=Za (hP.out.below o);replace q0:=Za (Zc o q0.out);replace q1:=Za (Zc o q1.out);replace q2:=Za (Zc o q2.out);replace q3:=Za (Zc o q3.out);replace hA:=Za (hA.out.below o);replace hD:=Za (hD.out.below o);replace hB:=Za (hB.out.trans (o.mono sz.out));replace sz:=Za (Qj sz.out o.size);clear a0 a1 a2 a3 b0 b1 b2 b3;obtain⟨a0,a1,a2,a3,-⟩:=q0.out.four;obtain⟨b0,b1,b2,b3,-⟩:=q1.out.four;clear o;refine hK.out _ _ (λ_=>⟨a0,a1,a2,a3,b0,b1,b2,b3⟩) ?_;clear hK K
 try simp only[Qq,Zg4,Zgk,Zgx]
 refine Zjw 2 [8,9] rfl (by kernel_rfl) ⟨a0,a1,a2,a3,b0,b1,b2,b3⟩ ?_
 iterate 2 (refine tkA ?_;try simp only[Qq,Zg4,Zgk,Zgx,Gr,Gq,Gp])
 refine tk0 ?_;refine wpAnyL_o 10 λK hK=>?_;go_simp;refine(Zdy O P' k' q' w3).mono ?_;rintro e w4 ⟨rfl,f⟩;replace hP:=Za (hP.out.below f);replace y:=Za (y.out.below f);replace q0:=Za (Zc f q0.out);replace q1:=Za (Zc f q1.out);replace q2:=Za (Zc f q2.out);replace q3:=Za (Zc f q3.out);replace hA:=Za (hA.out.below f);replace hD:=Za (hD.out.below f);replace hB:=Za (hB.out.trans (f.mono sz.out));replace sz:=Za (Qj sz.out f.size);clear a0 a1 a2 a3 b0 b1 b2 b3;obtain⟨a0,a1,a2,a3,-⟩:=q0.out.four;obtain⟨b0,b1,b2,b3,-⟩:=q1.out.four;clear f;obtain⟨x0,x1,f0,f1⟩:=q2.out.two;refine hK.out _ _ (λ_=>⟨a0,a1,a2,a3,b0,b1,b2,b3⟩) ?_;clear hK K
 try simp only[Qq,Zg4,Zgk,Zgx]
 refine wpAnyL_o 11 λK hK=>?_;go_simp;obtain⟨W5,V,Y,J,kW,kB,s5⟩:=Zas np P k q hB.out (by omega) q2.out;rw[V];clear V x0 x1 f0 f1 a0 a1 a2 a3 b0 b1 b2 b3 hA hD;replace q0:=kB _ _ _ (by omega) q0.out;replace q1:=kB _ _ _ (by omega) q1.out;obtain⟨a0,a1,a2,a3,-⟩:=q0.four;obtain⟨b0,b1,b2,b3,-⟩:=q1.four;replace q3:=Za (kB _ _ _ (by omega) q3.out);replace hP:=Za (kW _ _ _ _ _ hP.out);replace y:=Za (kW _ _ _ _ _ y.out);clear kW kB q2 hB q0 q1;obtain⟨y0,y1,g0,g1⟩:=q3.out.two;refine hK.out _ _ (λ_=>⟨a0,a1,a2,a3,b0,b1,b2,b3⟩) ?_;clear hK K
 try simp only[Qq,Zg4,Zgk,Zgx]
 refine Zm (i:=12) rfl (by kernel_rfl) (by kernel_rfl) (λK hK=>?_);go_simp;obtain⟨W6,U,a6,a4,kW,kB,s6⟩:=Zas O P' k' q' Y (by omega) q3.out;rw[U];clear U y0 y1 g0 g1 a0 a1 a2 a3 b0 b1 b2 b3;replace J:=kB _ _ _ (by omega) J;replace hP:=Za (kW _ _ _ _ _ hP.out);replace y:=Za (kW _ _ _ _ _ y.out);clear kW kB q3 Y;refine hK.out _ _ ?_;clear hK K
 try simp only[Qq,Zg4,Zgk,Zgx]
 refine wpAnyL_fin ?_;obtain⟨r0,r1,-⟩:=J.two;obtain⟨r2,r3,-⟩:=a4.two;go_wp2_with fail;refine bodyPost_ret (v:=.tuple #[.agg #[.bool np,.slice P k q],.agg #[.bool O,.slice P' k' q']]) (by simp[results,Tryz.results155,go_sem,r0,r1,r2,r3]) rfl ?_;exact⟨a6,_,_,_,_,_,_,_,_,rfl,hP.out,y.out⟩
theorem Zrq(na nb na' nb':Bool)(A B A' B':Option Addr)(n c m d n' c' m' d':Nat)(a b:Rat)(w:World)(ha:Fr w na A n c nb B m d a)(hb:Fr w na' A' n' c' nb' B' m' d' b)(sa:Sm a)(sb:Sm b)(h0:b≠0) :
    Calls Tryz.prog 111 #[.agg #[.bool na,.slice A n c,.bool nb,.slice B m d],.agg #[.bool na',.slice A' n' c',.bool nb',.slice B' m' d']] w (Zir w (a/b)):=by
 obtain⟨W0,u,f,⟨q0,q1,q2⟩,s0⟩:=Zd0 w 41 #[.bool na,.slice A n c,.bool nb,.slice B m d] 41 #[.bool na',.slice A' n' c',.bool nb',.slice B' m' d'] 41 #[.bool false,.slice none 0 0,.bool false,.slice none 0 0];have hA:=Za (ha.below f);have hD:=Za (hb.below f);have hF:=λ(W:World) (h1:Fr W na A n c nb B m d a) (h2:Fr W na' A' n' c' nb' B' m' d' b)=>Div1_ok na nb na' nb' A B A' B' n c m d n' c' m' d' a b W h1 h2 (Zdk sa.1 sb.dn) (Zdk sa.dn sb.1) h0;have hG:=Za (Zy8 155 na nb na' nb' A B A' B' n c m d n' c' m' d' a b _ _ W0 hA.out hD.out (Zmu a b h0) Zti hF);rw[Zk9 a b h0]at hG;clear hF ha hb sa sb hA hD;obtain⟨a0,a1,a2,a3,-⟩:=q0.four;obtain⟨b0,b1,b2,b3,-⟩:=q1.four;replace q2:=Za q2;clear q0 q1;go_enter Tryz.func111,Tryz.ntmps111;go_wp2_with fail;refine hG.out.mono ?_;rintro e w1 ⟨h,nx,Ax,kx,cx,ny,Ay,ky,cy,rfl,hX⟩;have C:Below w.heap.size w w1:=f.trans (h.mono f.size);have s1:W0.heap.size<=w1.heap.size:=h.size;replace q2:=Za (Zc h q2.out);replace hX:=Za hX;clear h a0 a1 a2 a3 b0 b1 b2 b3 f hG u;obtain⟨Y,V,U,a4,O,J,I,T⟩:=q2.out.four;go_wp2_with fail;obtain⟨W5,o,y,q2,kW,-,s5⟩:=Zal nx Ax kx cx ny Ay ky cy C (by omega) q2.out;rw[o];obtain⟨r0,r1,r2,r3,-⟩:=q2.four;refine bodyPost_ret (v:=.tuple #[.agg #[.bool nx,.slice Ax kx cx,.bool ny,.slice Ay ky cy],.int .i64 0]) (by simp[results,Tryz.results111,go_sem,r0,r1,r2,r3]) rfl ?_;exact⟨y,_,_,_,_,_,_,_,_,rfl,kW _ _ _ _ _ hX.out.1,kW _ _ _ _ _ hX.out.2⟩
theorem Zsh(k:Nat):Qa k (Value.slice none 0 0)=Zav (Qa k Zay):=by
 rw[Zci,List.map_replicate];rfl
theorem Zhh(k:Nat):madeCells (Value.agg #[.bool false,.slice none 0 0,.bool false,.slice none 0 0]).cells (k*4)=Zz (Qa k Zaw):=by
 apply Array.toList_inj.1;show (madeCells #[.bool false,.slice none 0 0,.bool false,.slice none 0 0] (k*4)).toList=Zp (Qa k Zaw);apply QA;intro i;by_cases h:i<k*4
 ·have he:(Qa k Zaw)[i/4]?=some Zaw:=by rw[Qs,Gx (by omega)]
  have hc:=Zg3 he;have h4:i%4=0 \/ i%4=1 \/ i%4=2 \/ i%4=3:=by omega
  have hm:(madeCells #[.bool false,.slice none 0 0,.bool false,.slice none 0 0] (k*4)).toList[i]?=some ((#[.bool false,.slice none 0 0,.bool false,.slice none 0 0]:Array Value)[i%4]?.getD default):=by
   unfold madeCells;simp[h]
  rw[hm];rcases h4 with h2|h2|h2|h2;rw[show i/4*4=i by omega]at hc;rw[hc.1,h2];rfl;rw[show i/4*4+1=i by omega]at hc;rw[hc.2.1,h2];rfl;rw[show i/4*4+2=i by omega]at hc;rw[hc.2.2.1,h2];rfl;rw[show i/4*4+3=i by omega]at hc;rw[hc.2.2.2,h2];rfl
 ·have a1:(Zp (Qa k Zaw))[i]?=none:=Qu (by rw[Zt];simp;omega)
  have a2:(madeCells #[.bool false,.slice none 0 0,.bool false,.slice none 0 0] (k*4)).toList[i]?=none:=Qu (by unfold madeCells;simp;omega);rw[a1,a2]
theorem Z0d{P:Program}(t e:TypeId){i:TypeInfo}(ht:P.underlying t=some (.slice e))(hi:P.info? e=some i)(hz:i.zero=some (.agg #[.bool false,.slice none 0 0,.bool false,.slice none 0 0]))(hs:i.size=4)(hb:i.bytes=64)
    (x:Int) (n:Nat) (hx:x=n) (hn:n<=1000000000000) (W:World) :
    (Instr.makeSlice t (.int .i64 x) (.int .i64 x)).run P W=.ok (.slice (some ⟨W.heap.size,0,none⟩) n n) (W.alloc (.cells (Zz (Qa n Zaw)) e)):=by
 subst hx;have hr:=run_make (P:=P) W t e i _ ht hi hz .i64 .i64 n n (by omega) (by omega) (by rw[hb];omega) (by omega);simp only[QB]at hr;rw[hr,hs,Zhh]
theorem Zlr{P:Program}(t e:TypeId){i:TypeInfo}(ht:P.underlying t=some (.slice e))(hi:P.info? e=some i)(hz:i.zero=some (.slice none 0 0))(hs:i.size=1)(hb:i.bytes=24)
    (x:Int) (n:Nat) (hx:x=n) (hn:n<=1000000000000) (W:World) :
    (Instr.makeSlice t (.int .i64 x) (.int .i64 x)).run P W=.ok (.slice (some ⟨W.heap.size,0,none⟩) n n) (W.alloc (.cells (Z0 (Qa n Zay)) e)):=by
 subst hx;have hr:=run_make (P:=P) W t e i _ ht hi hz .i64 .i64 n n (by omega) (by omega) (by rw[hb];omega) (by omega);simp only[QB]at hr;rw[hr,hs,Nat.mul_one]
 have:madeCells (Value.slice none 0 0).cells n=Z0 (Qa n Zay):=by
  apply Array.toList_inj.1;show (madeCells #[.slice none 0 0] n).toList=Zav (Qa n Zay);rw[<- Zsh];apply QA;intro j;unfold madeCells;by_cases h:j<n;simp[h,Nat.mod_one];simp[h]
 rw[this]
section
variable{P:Program}(w:World)
theorem Zn3(dT sT ty elem:TypeId)(i:TypeInfo)(g o dLen dCap:Nat)(a:Addr)(sLen sCap:Nat)(cur:Array Value)(t:TypeId)(cs:List Value)
    (hu:P.underlying dT=some (.slice elem)) (hi:P.info? elem=some i) (hg:w.heap[g]?=some (.cells cur t (0,0))) (hn:cs.length=QI sLen dLen*i.size)
    (hsrc:∀ j v,cs[j]?=some v->w.cell? (a.add j)=some v) (hfit:o+cs.length<=cur.size) (h1:∀ v ∈ cs,v.oneCell'=true) :
    (Builtin.copy_ #[dT,sT] ty #[.slice (some ⟨g,o,none⟩) dLen dCap,.slice (some a) sLen sCap]).run P w =
     .ok (goInt (QI sLen dLen)) (w.setRow g (cur.toList.take o++cs++cur.toList.drop (o+cs.length)).toArray):=by
 have hl:=run_loadCells_list (P:=P) w a cs hsrc;have e:=run_storeCells_at P g o t cs 0 cur w hg (by simpa using hfit) h1;simp[Builtin.copy_,run_underlying hu,Builtin.lenOf,Builtin.firstCells,sizeOf,typeInfo,hi,<- hn,hl,e]
theorem Zin(t ty e:TypeId)(i:TypeInfo)(hu:P.underlying t=some (.slice e))(hi:P.info? e=some i)(hs:i.size=4){tF:TypeId}{g k d dc:Nat}{es:List FE}(hb:Blk w g tF (Zz es))
    (B:Nat) (A:Option Addr) (m c:Nat) (fs:List FE) (hr:Reads w B 4 A m (Zp fs)) (hm:fs.length=m) (hm0:0<m) (hd:m<=d) (hk:k+m<=es.length) :
    (Builtin.copy_ #[t,t] ty #[.slice (some ⟨g,k*4,none⟩) d dc,.slice A m c]).run P w=.ok (goInt m) (w.setRow g (Zz (es.take k++fs++es.drop (k+m)))):=by
 obtain⟨ad,rfl,_,hc⟩:=hr.2 hm0;have hl:(Zp fs).length=m*4:=by rw[Zt,hm]
 have:=Zn3 (P:=P) w t t ty e i g (k*4) d dc ad m c _ tF (Zp fs) hu hi hb (by rw[hl,hs,show QI m d=m from Qn hd]) hc
  (by rw[hl];show k*4+m*4<=(Zz es).size;unfold Zz;simp only[Qz];rw[Zt];omega) (Zjd fs)
 rw[this,show QI m d=m from Qn hd];congr 2;unfold Zz
 have e1:Zp (es.take k)=(Zp es).take (k*4):=by
  have h1:Zp es=Zp (es.take k)++Zp (es.drop k):=by rw[<- Zaq,Qv]
  have h2:(Zp (es.take k)).length=k*4:=by rw[Zt,QD,Qn (by omega)]
  rw[h1,<- h2,List.take_left]
 have e2:Zp (es.drop (k+m))=(Zp es).drop (k*4+m*4):=by
  have h1:Zp es=Zp (es.take (k+m))++Zp (es.drop (k+m)):=by rw[<- Zaq,Qv]
  have h2:(Zp (es.take (k+m))).length=k*4+m*4:=by rw[Zt,QD,Qn (by omega)];omega
  rw[h1,<- h2,List.drop_left]
 rw[hl,Zaq,Zaq,e1,e2]
end
theorem Kept.setRow{G:Nat->Prop}{w0 w:World}(h:Kept G w0 w){g:Nat}(hg:G g \/ w0.heap.size<=g)(cs:Array Value):Kept G w0 (w.setRow g cs):=
 ⟨h.os,h.tape,h.output,by simp[World.setRow];exact h.size,λk hk hG=>(setRow_other w g k cs (by rcases hg with hg|hg;exact λe=>hG (e▸hg);omega)).trans (h.block k hk hG)⟩
theorem Zns{w:World}{g:Nat}{t:TypeId}{cs cs':Array Value}(h:Blk w g t cs):Blk (w.setRow g cs') g t cs':=setRow_heap w g _ _ t _ h
theorem Znb{w:World}{g k:Nat}{t:TypeId}{cs cs':Array Value}(h:Blk w k t cs)(hne:k≠g):Blk (w.setRow g cs') k t cs:=(setRow_other w g k _ hne).trans h
theorem FL.readsK{w:World}{A:Option Addr}{n c:Nat}{qs:List Rat}(h:FL w A n c qs){go:Nat}{t:TypeId}{rs:List RS}(hb:Blk w go t (Z0 rs)) :
    ∃ fs:List FE,fs.length=n/\fs.map FE.q=qs/\∀ w',Kept (λk=>k=go) w w'->Reads w' w'.heap.size 4 A n (Zp fs)/\∀ e ∈ fs,e.in_ w':=by
 obtain⟨es,h1,h2,h3,h4,h5,h6⟩:=h;refine⟨es,h1,h5,λw' hk=>?_⟩;have hG:∀ k,k=go->∃ t cs,Blk w k t cs/\NoLimb cs:=λk hk=>⟨t,Z0 rs,by rw[hk];exact hb,Zbj _⟩;refine⟨⟨by rw[Zt,h1],λhn=>?_⟩,λe he=>⟨hk.wd (h4 e he).1 hG,hk.wd (h4 e he).2 hG⟩⟩;obtain⟨g,o,e1,hc⟩:=h6 hn
 have y:g≠go:=λe=>by
  have h0:=(hc 0 es[0] (Qg (by omega))).1;rw[e,hb.cell]at h0;unfold Z0 at h0;rw[Zci]at h0;simp only[List.getElem?_toArray,QC]at h0;cases hx:rs[o+0*4]? with
  | none=>rw[hx]at h0;cases h0
  | some r=>rw[hx]at h0;cases h0
 have f:∀ (i:Nat) (v:Value),w.cell? ⟨g,i,none⟩=some v->w'.cell? ⟨g,i,none⟩=some v:=λi v hv=>by
  rw[<- hv];exact World.cell?_of_block (hk.block g (Zo hv) y)
 refine⟨⟨g,o,none⟩,e1,?_,λj u hu=>?_⟩
 ·have:=(hc 0 es[0] (Qg (by omega))).1
  exact Qp (Zo this) hk.size
 ·rw[Zg]
  have hj:j<es.length*4:=by
   have:=(List.getElem?_eq_some_iff.1 hu).1
   rwa [Zt]at this
  have he:=Qg (show j/4<es.length by omega);have hg:=Zg3 he;have hm:=hc (j/4) _ he;have h4:j%4=0 \/ j%4=1 \/ j%4=2 \/ j%4=3:=by omega
  rcases h4 with h2|h2|h2|h2;rw[show j/4*4=j by omega]at hg hm;rw[hg.1]at hu;cases hu;exact f _ _ hm.1;rw[show j/4*4+1=j by omega]at hg hm;rw[hg.2.1]at hu;cases hu;exact f _ _ hm.2.1;rw[show j/4*4+2=j by omega]at hg hm;rw[hg.2.2.1]at hu;cases hu;exact f _ _ hm.2.2.1;rw[show j/4*4+3=j by omega]at hg hm;rw[hg.2.2.2]at hu;cases hu;exact f _ _ hm.2.2.2
theorem MatB.mfl{tS tF:TypeId}{w:World}{go n c:Nat}{L:List RF}(h:MatB tS tF w go L)(hl:L.length=n)(hc:n<=c)(hm:c<=maxLen):MFL w (some ⟨go,0,none⟩) n c (L.map RF.q):=by
 refine⟨by rw[Qh,hl],hc,hm,λ_=>⟨go,0,rfl,λk q hq=>?_⟩⟩;rw[QC]at hq;obtain⟨r,hr,rfl⟩:=Option.map_eq_some_iff.1 hq;have h1:=(h.cell hr).1;obtain⟨h2,h3,h4⟩:=h.row hr;exact⟨_,_,_,by rw[Nat.zero_add];exact h1,h2.fl h3 h4⟩
theorem Zv5(F:FuncId)(cap:Value)(A:Option Addr)(n c m s:Nat)(Q:List (List Rat))(S:Nat->List Rat)(w:World)(h:MFL w A n c Q)(hn9:n<=900)(hm:∀ i,i<n->(Q[i]?.getD []).length=m)(hm0:0<m)(hm9:m<=900)(hs0:0<s)(hs9:s<=900)(hS:∀ i,i<n->(S i).length=s)
    (hcf:∀ (x:Value) (W:World),(callFunc F #[x,cap]).run Tryz.prog W=.ok (.enter F #[x,cap]) W)
    (hF:∀ (W:World) (i:Nat),Below w.heap.size w W->i<n->Calls Tryz.prog F #[.int .i64 i,cap] W λe W'=>∃ A c,e=.returned (.slice A s c)/\Below W.heap.size W W'/\FL W' A s c (S i)) :
    Calls Tryz.prog 83 #[.slice A n c,.func (.func F) #[] #[cap]] w λe w'=>∃ go L,e=.returned (.slice (some ⟨go,0,none⟩) n n)/\Below w.heap.size w w'/\w.heap.size<=go/\L.length=n/\MatB 35 41 w' go L/\L.map RF.q=(QG n).map λi=>Q[i]?.getD []++S i:=by
 obtain⟨iF,hi,e6,c0,e5⟩:=info_parts Zfm;obtain⟨iS,ki,e1,e7,e3⟩:=info_parts Zgz;have hl:=Za h.1;have f6:=h.2.1;have f0:=h.2.2.1;unfold maxLen at f0;have f5:(35:TypeId)≠41:=by decide
 replace hm:=Za hm;replace h:=Za h;replace hS:=Za hS;replace hF:=Za hF;obtain⟨W0,a1⟩:=Gz (w.alloc (.cells (Z0 (Qa n Zay)) 35));obtain⟨go,C⟩:=Gz w.heap.size;have q0:Hid (Blk W0 go 35 (Z0 (Qa n Zay))):=Za (by rw[<- a1,<- C];exact Qy _ _ _);have c8:Hid (Below w.heap.size w W0):=Za (by rw[<- a1];exact(Qb _ _).alloc (Qd _) _);have s0:Hid (W0.heap.size=go+1):=Za (by rw[<- a1,<- C];simp);have e0:=Zlr (P:=Tryz.prog) 25 35 Tryz.underlying25 ki e1 e7 e3 (n:Int) n rfl (by omega);go_enter Tryz.func83,Tryz.ntmps83;go_wp2_with fail;(try rw[a1]);(try rw[C]);replace C:=Za C;clear a1 e0
 go_loopg [14] n (λk iv wr=>∃ (i:Nat) (L:List RF),i+k=n/\iv=.int .i64 i/\Hid (L.length=i)/\Blk wr go 35 (Z0 (L.map RF.rs++Qa (n-i) Zay))/\Hid (∀ r ∈ L,(FOwn 41 wr r.g r.q/\r.q.length<=r.c/\r.c<=maxLen)/\W0.heap.size<=r.g)/\Hid ((L.map RF.g).Nodup)/\Hid (L.map RF.q=(QG i).map λi=>Q[i]?.getD []++S i)/\Kept (λk=>k=go) W0 wr)
 case atStart=>exact⟨0,[],by omega,rfl,Za rfl,q0.out,Za (λr hr=>(by cases hr)),Za List.nodup_nil,Za rfl,Kept.refl _ _⟩
 case round =>
  obtain⟨i,L,f4,rfl,u,y,f,d0,d7,hK⟩:=hrel;have b6:Below w.heap.size w wr:=c8.out.trans (hK.to_below (λk hk=>by rw[hk,C.out];exact Qd _) c8.out.size);cases gk with
  | zero =>
   obtain rfl:i=n:=by omega
   have t1:decide ((i:Int)<(i:Int))=false:=by simp
   replace y:=Za y;go_wp2_with fail;go_ret;refine⟨go,L,rfl,b6,by rw[C.out];exact Qd _,u.out,⟨⟨_,y.out⟩,λr hr=>(f.out r hr).1,?_⟩,d7.out⟩;refine List.nodup_cons.2 ⟨λhmm=>?_,d0.out⟩;obtain⟨r,hr,e⟩:=List.mem_map.1 hmm;have:=(f.out r hr).2;have:=s0.out;omega
  | succ j =>
   obtain rfl:j=n-(i+1):=by omega
   have a5:i<n:=by omega
   have t1:decide ((i:Int)<(n:Int))=true:=Gv (by omega);have bi:(i:Int)<(n:Int):=by omega
   obtain⟨ga,oa,A1,n1,c1,rfl,k0,a6⟩:=(h.out.below b6).at_ a5;have e4:n1=m:=by rw[<- a6.len];exact hm.out i a5
   subst e4;replace a6:=Za a6;replace y:=Za y;go_wp2_with fail;refine(hF.out wr i b6 a5).mono ?_;rintro e w1 ⟨As,cs,rfl,a0,d6⟩;have o:=Zc a0 y.out;obtain⟨fs,T,c5,b4⟩:=(a6.out.below a0).readsK o;obtain⟨gs,d9,d4,b9⟩:=d6.readsK o;obtain⟨gN,e9⟩:=Gz w1.heap.size;obtain⟨W2,c4⟩:=Gz (w1.alloc (.cells (Zz (Qa (n1+s) Zaw)) 41));have c2:Below w1.heap.size w1 W2:=by rw[<- c4];exact(Qb _ _).alloc (Qd _) _
   have c3:Blk W2 gN 41 (Zz (Qa (n1+s) Zaw)):=by rw[<- c4,<- e9];exact Qy _ _ _
   have I:=Zc c2 o;have d3:=o.lt;have f3:go<gN:=by omega
   have x0:=I.cell i;have x1:=I.frozen i;rw[show (Z0 (L.map RF.rs++Qa (n-i) Zay))[i]?=some (.slice none 0 0) from Zbs (e:=Zay) (by rw[Qe (by rw[Qh,u.out];exact Qd _),Qh,u.out,Ql,Qs,Gx (by omega)])]at x0;have e8:(Q[i]?.getD []++S i).length=n1+s:=by rw[Qk,hm.out i a5,hS.out i a5]
   obtain⟨W3,b5⟩:∃ X,W2.setCell ⟨go,i,none⟩ (.slice (some ⟨gN,0,none⟩) (n1+s) (n1+s))=X:=⟨_,rfl⟩
   have Y:(L.map RF.rs++Qa (n-i) Zay).set i ⟨some ⟨gN,0,none⟩,n1+s,n1+s⟩=(L ++ [RF.mk gN (n1+s) (Q[i]?.getD []++S i)]).map RF.rs++Qa (n-(i+1)) Zay:=by
    rw[List.set_append_right _ _ (by rw[Qh,u.out];exact Qd _),Qh,u.out,Ql,show n-i=n-(i+1)+1 by omega,List.replicate_succ,List.set_cons_zero,Qi,List.append_assoc];simp only[List.map_cons,List.map_nil,RF.rs,e8];rfl
   have V:Blk W3 go 35 (Z0 ((L ++ [RF.mk gN (n1+s) (Q[i]?.getD []++S i)]).map RF.rs++Qa (n-(i+1)) Zay)):=by
    have:=I.set_ i (.slice (some ⟨gN,0,none⟩) (n1+s) (n1+s));rw[Zdr ⟨some ⟨gN,0,none⟩,n1+s,n1+s⟩,b5,Y]at this;exact this
   have a2:Blk W3 gN 41 (Zz (Qa (n1+s) Zaw)):=by rw[<- b5];exact c3.far (by show gN≠go;omega) _
   have b8:Kept (λk=>k=go) w1 W3:=by
    rw[<- b5];exact Kept.set_ (G:=λk=>k=go) (Kept.of_below c2) (p:=⟨go,i,none⟩) (Or.inl rfl) _
   have a3:∀ W,Blk W go 35 (Z0 ((L ++ [RF.mk gN (n1+s) (Q[i]?.getD []++S i)]).map RF.rs++Qa (n-(i+1)) Zay))->W.cell? ⟨go,i,none⟩=some (.slice (some ⟨gN,0,none⟩) (n1+s) (n1+s)):=λW hW=>by
    rw[hW.cell];refine Zbs (e:=⟨some ⟨gN,0,none⟩,n1+s,n1+s⟩) ?_;rw[<- Y,List.getElem?_set_self (by simp[u.out];omega)]
   have x3:=a3 W3 V;have b1:=λty=>Zin (P:=Tryz.prog) W3 35 ty 41 iF Tryz.underlying35 hi c0 a2 W3.heap.size A1 n1 c1 fs (b4 W3 b8).1 T hm0 (d:=n1+s) (dc:=n1+s) (k:=0) (by omega) (by simp);rw[Nat.zero_mul,List.take_zero,QF,Nat.zero_add,List.drop_replicate,Nat.add_sub_cancel_left]at b1;obtain⟨W4,b0⟩:=Gz (W3.setRow gN (Zz (fs++Qa s Zaw)));rw[b0]at b1;have J:Blk W4 gN 41 (Zz (fs++Qa s Zaw)):=by rw[<- b0];exact Zns a2
   have a4:=show Blk W4 go 35 _ by rw[<- b0];exact Znb V (by omega)
   have b7:Kept (λk=>k=go) w1 W4:=by rw[<- b0];exact b8.setRow (.inr (by omega)) _
   have x4:=a3 W4 a4;have b2:=λty=>Zin (P:=Tryz.prog) W4 35 ty 41 iF Tryz.underlying35 hi c0 J W4.heap.size As s cs gs (b9 W4 b7).1 d9 hs0 (d:=s) (dc:=s) (k:=n1) (Qd _) (by simp[T]);rw[List.take_left' T,show n1+s=(fs++Qa s Zaw).length by simp[T],List.drop_length,QH]at b2;obtain⟨W5,a9⟩:=Gz (W4.setRow gN (Zz (fs++gs)));rw[a9]at b2;have b3:Blk W5 gN 41 (Zz (fs++gs)):=by rw[<- a9];exact Zns J
   have U:=show Blk W5 go 35 _ by rw[<- a9];exact Znb a4 (by omega)
   have a8:Kept (λk=>k=go) w1 W5:=by rw[<- a9];exact b7.setRow (.inr (by omega)) _
   have e0:=Z0d (P:=Tryz.prog) 35 41 Tryz.underlying35 hi e6 c0 e5 ((n1:Int)+(s:Int)) (n1+s) (by omega) (by omega);have bx:(i:Int)<(n:Int):=bi
   have c7:FOwn 41 W5 gN (Q[i]?.getD []++S i):=⟨fs++gs,[],by rw[QH];exact b3,λe he=>by
    rcases List.mem_append.1 he with he|he;exact(b4 W5 a8).2 e he
    ·exact(b9 W5 a8).2 e he,by rw[Qi,c5,d4]⟩
   have c6:∀ k,k=go->∃ t cs,Blk wr k t cs/\NoLimb cs:=λk hk=>⟨_,_,hk▸y.out,Zbj _⟩;have O:Kept (λk=>k=go) wr W5:=(Kept.of_below a0).trans (a8.mono (λk _ h=>h))
   have a7:Hid (∀ r ∈ L ++ [RF.mk gN (n1+s) (Q[i]?.getD []++S i)],(FOwn 41 W5 r.g r.q/\r.q.length<=r.c/\r.c<=maxLen)/\W0.heap.size<=r.g):=Za (λr hr=>by
    rcases List.mem_append.1 hr with hr|hr
    ·obtain⟨⟨r1,r2⟩,r3⟩:=f.out r hr
     have:=s0.out;exact⟨⟨r1.keptG O (by omega) c6,r2⟩,r3⟩
    ·rw[Qx]at hr
     subst hr;have h7:=hK.size;have h8:=a0.size;exact⟨⟨c7,by show (Q[i]?.getD []++S i).length<=n1+s;omega,by show n1+s<=maxLen;unfold maxLen;omega⟩,by show W0.heap.size<=gN;omega⟩)
   have d8:Hid (((L ++ [RF.mk gN (n1+s) (Q[i]?.getD []++S i)]).map RF.g).Nodup):=Za (by
    rw[Qi,List.nodup_append];refine⟨d0.out,by simp,λa ha b hb=>?_⟩;obtain⟨r,hr,rfl⟩:=List.mem_map.1 ha;simp only[List.map_cons,List.map_nil,Qx]at hb;have h6:=(f.out r hr).1.1.lt;have h7:=a0.size;omega)
   have d5:Hid ((L ++ [RF.mk gN (n1+s) (Q[i]?.getD []++S i)]).map RF.q=(QG (i+1)).map λi=>Q[i]?.getD []++S i):=Za (by
    rw[Qi,d7.out,List.range_succ,Qi];rfl)
   have e2:Hid (Kept (λk=>k=go) W0 W5):=Za (hK.trans O);have c9:Hid ((L ++ [RF.mk gN (n1+s) (Q[i]?.getD []++S i)]).length=i+1):=Za (by rw[Qk,u.out];rfl);replace U:=Za U;clear b4 b9 T c5 d9 d4 o c2 c3 I Y V a2 b8 a3 J a4 b7 b3 a8 c7 c6 O d6 d3;go_wp2_with fail
   go_roundg (n-(i+1))
   case measure=>omega
   case rel=>exact⟨i+1,L ++ [RF.mk gN (n1+s) (Q[i]?.getD []++S i)],by omega,by go_num,c9,U.out,a7,d8,d5,e2.out⟩
theorem BdR.mono{C D C' D' m:Nat}{R:List (List Rat)}(h:BdR C D m R)(hC:C<=C')(hD:D<=D'):BdR C' D' m R:=⟨h.1,λi j=>⟨Qp (h.2 i j).1 hC,Qp (h.2 i j).2 hD⟩⟩
theorem Zmp{C D C' D' m:Nat}(hC:C<=C')(hD:D<=D'):∀ (f c r:Nat) (R:List (List Rat)),okR C D m f c r R->okR C' D' m f c r R
 | 0,_,_,_,h=>BdR.mono h hC hD
 | f+1,c,r,R,h=>⟨h.1.mono hC hD,h.2.imp id (λ⟨h1,h2⟩=>⟨λe=>Zmp hC hD f _ _ _ (h1 e),λe=>Zmp hC hD f _ _ _ (h2 e)⟩)⟩
def n0R(rs:List RX):Nat:=(rs[0]?.map RX.n).getD 0
def Zha(k:Nat)(r:RX):Bool:=decide (r.n=k) && Zex r.es
def Zhs(rs:List RX):Bool:=decide (12<rs.length) || rs.any RX.long
def Zgv(rs:List RX):Int:=if Zhs rs=true then 4 else if n0R rs=0 then 8 else if rs.all (Zha (n0R rs))=true then 0 else 8
def sqE(rs:List RX):Int:=if Zgv rs=0 then (if rs.length=n0R rs then 0 else 8)else Zgv rs
theorem Zot{rs:List RX}(h:Zhs rs=true):Zgv rs=4:=by unfold Zgv;rw[Gx h]
theorem Zoy{rs:List RX}(h:Zhs rs=false)(h0:n0R rs=0):Zgv rs=8:=by unfold Zgv;rw[Gw (by simp[h]),Gx h0]
theorem Zzr{rs:List RX}(h:Zhs rs=false)(h0:n0R rs≠0){r:RX}(hr:r ∈ rs)(hb:Zha (n0R rs) r=false):Zgv rs=8:=by
 unfold Zgv;rw[Gw (by simp[h]),Gw h0,Gw];intro e;rw[QE]at e;have:=e r hr;rw[hb]at this;cases this
theorem matE_ok{rs:List RX}(h:Zhs rs=false)(h0:n0R rs≠0)(ha:rs.all (Zha (n0R rs))=true):Zgv rs=0:=by
 unfold Zgv;rw[Gw (by simp[h]),Gw h0,Gx ha]
theorem Zys{rs:List RX}{r:RX}(h:rs[0]?=some r):n0R rs=r.n:=by unfold n0R;rw[h];rfl
theorem Zuo(A:Option Addr)(n c:Nat)(rs:List RX)(w:World)(h:MXL w A n c rs)(E:Int)(hE:Zgv rs=E) :
    Calls Tryz.prog 126 #[.slice A n c] w λe w'=>e=.returned (.int .i64 E)/\Below w.heap.size w w':=by
 have hl:=h.1;have a8:=h.2.1;have a1:=h.2.2.1;unfold maxLen at a1;replace hE:=Za hE;by_cases h12:12<n
 ·have t1:decide ((12:Int)<(n:Int))=true:=Gv (by omega)
  obtain rfl:E=4:=by rw[<- hE.out];exact Zot (by unfold Zhs;rw[hl,Gv h12];rfl)
  go_enter Tryz.func126,Tryz.ntmps126;go_wp2_with fail;go_ret;exact⟨rfl,by first|exact Qb _ _|exact Zf (Qb _ _) _⟩
 have t1:decide ((12:Int)<(n:Int))=false:=Gu (by omega);obtain⟨x,hx⟩:=Gz (rs.any RX.long);have I:Zhs rs=x:=by unfold Zhs;rw[hl,Gu h12,hx];rfl
 have hC:=Za (λW1 (hb:Below w.heap.size w W1)=>Ztd A n c rs W1 (h.below hb) x hx);clear hx;replace I:=Za I;cases x
 case true =>
  obtain rfl:E=4:=by rw[<- hE.out];exact Zot I.out
  clear h;go_enter Tryz.func126,Tryz.ntmps126;go_wp2_with fail;refine(hC.out _ (by first|exact Qb _ _|exact Zf (Qb _ _) _)).mono ?_;rintro e w1 ⟨rfl,y⟩;go_wp2_with fail;go_ret;exact⟨rfl,by first|exact y|exact(Zf (Qb _ _) _).trans y⟩
 by_cases hn0:n=0
 ·subst hn0
  obtain rfl:E=8:=by
   rw[<- hE.out];have:rs=[]:=Qo hl;exact Zoy I.out (by rw[this];rfl)
  clear h;go_enter Tryz.func126,Tryz.ntmps126;go_wp2_with fail;refine(hC.out _ (by first|exact Qb _ _|exact Zf (Qb _ _) _)).mono ?_;rintro e w1 ⟨rfl,y⟩;go_wp2_with fail;go_ret;exact⟨rfl,by first|exact y|exact(Zf (Qb _ _) _).trans y⟩
 have t2:((n:Int) == 0)=false:=by simp;omega
 have a6:decide (n=0)=false:=by simpa using hn0
 obtain⟨g,o,r0,rfl,Y,c0,a0⟩:=h.at_ (k:=0) (by omega);have V:=a0.nlen;unfold maxLen at V;have f:=Zys Y;clear Y a0;rw[Nat.add_zero]at c0;have a9:=Zo c0;by_cases hz:r0.n=0
 ·obtain rfl:E=8:=by rw[<- hE.out];exact Zoy I.out (by rw[f,hz])
  have t3:((r0.n:Int) == 0)=true:=by simp[hz]
  have a5:decide (r0.n=0)=true:=by simpa using hz
  replace h:=Za h;replace f:=Za f;replace hz:=Za hz;go_enter Tryz.func126,Tryz.ntmps126;go_wp2_with fail;refine(hC.out _ (by first|exact Qb _ _|exact Zf (Qb _ _) _)).mono ?_;rintro e w1 ⟨rfl,y⟩;have C:Below w.heap.size w w1:=by first|exact y|exact(Zf (Qb _ _) _).trans y
  have k0:=Zb C c0;clear c0;go_wp2_with fail;go_ret;exact⟨rfl,C⟩
 have t3:((r0.n:Int) == 0)=false:=by simpa using hz
 have a5:decide (r0.n=0)=false:=by simpa using hz
 replace h:=Za h;replace hl:=Za hl;replace f:=Za f;replace hz:=Za hz;go_enter Tryz.func126,Tryz.ntmps126;go_wp2_with fail;refine(hC.out _ (by first|exact Qb _ _|exact Zf (Qb _ _) _)).mono ?_;rintro e w1 ⟨rfl,y⟩;have C:Below w.heap.size w w1:=by first|exact y|exact(Zf (Qb _ _) _).trans y
 have k0:=Zb C c0;clear y hC;go_wp2_with fail
 go_loopw [24] (λiv wr=>∃ i:Nat,i<=n/\iv=.int .i64 i/\Hid (∀ j e,j<i->rs[j]?=some e->Zha (n0R rs) e=true)/\Below w.heap.size w wr) (λiv _=>n-(intOf iv).toNat)
 case atStart=>exact⟨0,Nat.zero_le _,rfl,Za (λj e hj=>by omega),(by first|exact C|exact Zf C _)⟩
 case round =>
  clear k0 C;obtain⟨i,a7,rfl,O,u⟩:=hrel;have k0:=Zb u c0;clear c0;by_cases hin:i<n
  case neg =>
   obtain rfl:n=i:=by omega
   have a2:decide ((n:Int)<(n:Int))=false:=by simp
   obtain rfl:E=0:=by
    rw[<- hE.out];refine matE_ok I.out (by rw[f.out];exact hz.out) ?_;rw[QE];intro e he;obtain⟨j,hj,a3⟩:=List.getElem_of_mem he;exact O.out j e (by rw[hl.out]at hj;exact hj) (by rw[Qg hj,a3])
   go_wp2_with fail;go_ret;exact⟨rfl,u⟩
  have a2:decide ((i:Int)<(n:Int))=true:=Gv (by omega);obtain⟨g',o',r,hA,he,c1,hL⟩:=(h.out.below u).at_ hin;cases hA;have a4:=hL.nlen;unfold maxLen at a4;have bad:Zha (n0R rs) r=false->E=8:=λhf=>by rw[<- hE.out];exact Zzr I.out (by rw[f.out];exact hz.out) (Qm he) hf
  have good:Zha (n0R rs) r=true->Hid (∀ j e,j<i+1->rs[j]?=some e->Zha (n0R rs) e=true):=λhf=>Za (λj e' hj he'=>by
   rcases Nat.lt_or_ge j i with h'|h';exact O.out j e' h' he'
   ·obtain rfl:j=i:=by omega
    rw[he]at he';cases he';exact hf)
  replace bad:=Za bad;replace good:=Za good;replace he:=Za he;by_cases hq:r.n=r0.n
  case neg =>
   have t4:((r.n:Int) == (r0.n:Int))=false:=beq_eq_false_iff_ne.2 (by omega);have t5:((r.n:Int) != (r0.n:Int))=true:=by rw[bne,t4];rfl
   have U:decide (r.n=r0.n)=false:=by simpa using hq
   obtain rfl:E=8:=bad.out (by unfold Zha;rw[f.out,U];rfl);clear hL;go_wp2_with fail;go_ret;exact⟨rfl,by first|exact u|exact Zf u _⟩
  have t4:((r.n:Int) == (r0.n:Int))=true:=beq_iff_eq.2 (by omega);have t5:((r.n:Int) != (r0.n:Int))=false:=by rw[bne,t4];rfl
  have U:decide (r.n=r0.n)=true:=by simpa using hq
  obtain⟨x,hx⟩:=Gz (Zex r.es);have hC:=Za (λW1 (hb:Below wr.heap.size wr W1)=>Zqw r.A r.n r.c r.es W1 (hL.below hb) x hx);replace hx:=Za hx;replace hq:=Za hq;clear hL;cases x
  ·obtain rfl:E=8:=bad.out (by unfold Zha;rw[hx.out];simp)
   go_wp2_with fail;refine(hC.out _ (by first|exact Qb _ _|exact Zf (Qb _ _) _)).mono ?_;rintro e' w2 ⟨rfl,J⟩;go_wp2_with fail;go_ret;exact⟨rfl,(by first|exact u.trans (J.mono u.size)|exact(Zf u _).trans (J.mono u.size))⟩
  ·have T:=good.out (by unfold Zha;rw[f.out,U,hx.out];rfl)
   go_wp2_with fail;refine(hC.out _ (by first|exact Qb _ _|exact Zf (Qb _ _) _)).mono ?_;rintro e' w2 ⟨rfl,J⟩;go_wp2_with fail
   go_roundw
   case rel=>exact⟨i+1,by omega,by go_num,T,(by first|exact u.trans (J.mono u.size)|exact(Zf u _).trans (J.mono u.size))⟩
   case measure=>simp[intOf];omega
theorem Zrw(A:Option Addr)(n c:Nat)(rs:List RX)(w:World)(h:MXL w A n c rs)(E:Int)(hE:sqE rs=E) :
    Calls Tryz.prog 80 #[.slice A n c] w λe w'=>e=.returned (.int .i64 E)/\Below w.heap.size w w':=by
 have hl:=h.1;have U:=h.2.1;have J:=h.2.2.1;unfold maxLen at J;obtain⟨F,hF⟩:=Gz (Zgv rs);go_enter Tryz.func80,Tryz.ntmps80;go_wp2_with fail;refine(Zuo A n c rs w h F hF).mono ?_;rintro e w1 ⟨rfl,f⟩;unfold sqE at hE;rw[hF]at hE;by_cases hF0:F=0
 case neg =>
  have t1:(F == 0)=false:=by simpa using hF0
  have T:decide (F=0)=false:=by simpa using hF0
  rw[Gw hF0]at hE;subst hE;replace hF:=Za hF;go_wp2_with fail;go_ret;exact⟨rfl,f⟩
 subst hF0;rw[Gx rfl]at hE
 have O:0<n:=by
  rcases Nat.eq_zero_or_pos n with h0|h0
  ·exfalso
   have:rs=[]:=Qo (by omega);subst this;exact absurd hF (by decide)
  exact h0
 obtain⟨g,o,r0,rfl,u,c0,C⟩:=h.at_ (k:=0) O;have y:=C.nlen;unfold maxLen at y;rw[Zys u,hl]at hE;rw[Nat.add_zero]at c0;replace c0:=Zb f c0;replace u:=Za u;replace hF:=Za hF;clear C h;by_cases hq:n=r0.n
 ·have t2:((n:Int) == (r0.n:Int))=true:=beq_iff_eq.2 (by omega)
  have t5:((n:Int) != (r0.n:Int))=false:=by rw[bne,t2];rfl
  have I:decide (n=r0.n)=true:=by simpa using hq
  rw[Gx hq]at hE;subst hE;replace hq:=Za hq;go_wp2_with fail;go_ret;exact⟨rfl,f⟩
 ·have t2:((n:Int) == (r0.n:Int))=false:=beq_eq_false_iff_ne.2 (by omega)
  have t5:((n:Int) != (r0.n:Int))=true:=by rw[bne,t2];rfl
  have I:decide (n=r0.n)=false:=by simpa using hq
  rw[Gw hq]at hE;subst hE;replace hq:=Za hq;go_wp2_with fail;go_ret;exact⟨rfl,f⟩
