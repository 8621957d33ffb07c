/- The reference's copied, with rows that may grow. -/
import Derived.RangeFuncNested
import Derived.Lib.SlBuf
import Derived.Test.YthappeninglakaaGreatZd10
set_option maxRecDepth 100000
set_option maxHeartbeats 8000000
set_option linter.unusedSimpArgs false
set_option linter.unusedVariables false
namespace Go.Proofs.YthappeninglakaaGreat
open Go.RowKit
open List renaming replicate→Qa,getElem?_eq_getElem→Qd,getElem?_append_right→Qf,getElem?_append_left→Qg,length_map→Qj,getElem?_map→Qk,map_append→Ql,length_append→Qm,mem_of_getElem?→Qo,eq_nil_of_length_eq_zero→Qr,getElem_of_mem→Qs,ext_getElem?→Qu,length_take→Qv,getElem?_replicate→Qx,nil_append→Qy,length_singleton→QA,getElem?_eq_none→QC,take_append_drop→QD,mem_singleton→QF,size_toArray→QG,getElem?_set→QJ,all_eq_true→QK,range→QL,append_nil→QM
open Below renaming refl→Qb
open Nat renaming le_refl→Qc,le_trans→Qi,sub_self→Qn,min_eq_left→Qq,lt_of_lt_of_le→Qt,zero_le→Qz,min→QN
open And renaming intro→Qe
open Act renaming put→Qh
open Or renaming inl→Qp
open World renaming size_alloc→Qw
open Blk renaming new→QB
open Rat renaming divInt→QE
open OnlyNormal renaming normal→QH
open Int renaming toNat_natCast→QI
attribute [local go_sem] Zh
def MatOA(tS tF:TypeId)(w:World)(base:Nat)(v:Value)(rs:List RS)(Q:List (List Rat)):Prop:=
 RowS tS w base v rs/\rs.length=Q.length/\(∀ (i:Nat) (r:RS),rs[i]?=some r->OwnF tF w base r.val (Q[i]?.getD [])) /\
  ∀ (i j:Nat) (r s:RS) (k:Nat),rs[i]?=some r->rs[j]?=some s->i≠j->r.val.ownBlock=some k->s.val.ownBlock≠some k
section
variable{tS tF:TypeId}{w w':World}{base:Nat}{v v':Value}{rs:List RS}{Q:List (List Rat)}
theorem MatOA.nil(tS tF:TypeId)(w:World)(base:Nat):MatOA tS tF w base (.slice none 0 0) [] []:=⟨.inl ⟨rfl,rfl⟩,rfl,λi r hr=>(by cases hr),λi j r s k hr=>(by cases hr)⟩
theorem MatOA.kept(h:MatOA tS tF w base v rs Q)(hb:Below w.heap.size w w'):MatOA tS tF w' base v rs Q:=⟨h.1.kept hb,h.2.1,λi r hr=>(h.2.2.1 i r hr).kept hb,h.2.2.2⟩
theorem OwnF.grownT(hts:tS≠tF){q:List Rat}{b:Nat}{u:Value}(h:OwnF tF w b u q){rs:List RS}(hv:RowS tS w base v rs)(hg:w.grownBy w' v.ownBlock)(hk:∀ (A:Option Addr) (n c:Nat) (l:List Nat),Lim w A n c l->Lim w' A n c l):OwnF tF w' b u q:=by
 obtain⟨es,e1,e2,e3⟩:=h;refine⟨es,?_,λe he=>⟨⟨(e2 e he).1.1,(e2 e he).1.2.1,hk _ _ _ _ (e2 e he).1.2.2⟩,⟨(e2 e he).2.1,(e2 e he).2.2.1,hk _ _ _ _ (e2 e he).2.2.2⟩⟩,e3⟩;rcases e1 with e1|⟨g2,sp,e4,e5,e6,e7⟩;exact .inl e1;exact .inr ⟨g2,sp,e4,e5,e6,(hg.block g2 e7.lt (λe=>hv.ownType e7 hts e.symm)).trans e7⟩
theorem OwnF.lower{b b':Nat}{u:Value}{q:List Rat}(h:OwnF tF w b u q)(hb:b'<=b):OwnF tF w b' u q:=by
 obtain⟨es,e1,e2,e3⟩:=h;refine⟨es,?_,e2,e3⟩;rcases e1 with e1|⟨g2,sp,e4,e5,e6,e7⟩;exact .inl e1;exact .inr ⟨g2,sp,e4,Qi hb e5,e6,e7⟩
theorem MatOA.snoc(h:MatOA tS tF w base v rs Q)(hts:tS≠tF){r:RS}{q:List Rat}{b:Nat}(ho:OwnF tF w b r.val q)(hb:base<=b)(hlt:∀ s ∈ rs,∀ k,s.val.ownBlock=some k->k<b)(h1:RowS tS w' base v' (rs ++ [r]))(hg:w.grownBy w' v.ownBlock)(hk:∀ (A:Option Addr) (n c:Nat) (l:List Nat),Lim w A n c l->Lim w' A n c l) :
    MatOA tS tF w' base v' (rs ++ [r]) (Q ++ [q]):=by
 obtain⟨a1,a2,a3,a4⟩:=h;refine⟨h1,by simp[a2],λi s hs=>?_,λi j s t k hs ht hij hsk=>?_⟩
 ·by_cases hi:i<rs.length
  ·rw[Qg hi]at hs
   rw[Qg (by omega)];exact(a3 i s hs).grownT hts a1 hg hk
  ·have hl:=(List.getElem?_eq_some_iff.1 hs).1
   rw[Qm,QA]at hl;obtain rfl:i=rs.length:=by omega
   rw[Qf (Qc _),Qn]at hs;cases hs;rw[Qf (by omega),a2,Qn];exact(ho.lower hb).grownT hts a1 hg hk
 ·have new:∀ (x:RS) (k:Nat),x ∈ rs->x.val.ownBlock=some k->r.val.ownBlock≠some k:=λx k hx hxk e=>by
    have h2:=hlt x hx k hxk;obtain⟨cs,-,-,h3⟩:=ho.ownBlk k e;omega
  have o:=(List.getElem?_eq_some_iff.1 hs).1;have f:=(List.getElem?_eq_some_iff.1 ht).1;rw[Qm,QA]at o f;by_cases hi:i<rs.length
  ·rw[Qg hi]at hs
   by_cases hj:j<rs.length
   ·rw[Qg hj]at ht
    exact a4 i j s t k hs ht hij hsk
   ·obtain rfl:j=rs.length:=by omega
    rw[Qf (Qc _),Qn]at ht;cases ht;exact new s k (Qo hs) hsk
  ·obtain rfl:i=rs.length:=by omega
   rw[Qf (Qc _),Qn]at hs;cases hs;rw[Qg (by omega)]at ht;exact λe=>new t k (Qo ht) e hsk
theorem MatOA.mat(h:MatOA tS tF w base v rs Q)(hl:rs ≠ []):∃ go cap,v=.slice (some ⟨go,0,none⟩) rs.length cap/\rs.length<=cap/\cap<=maxLen/\MatA tS tF w base go rs Q:=by
 obtain⟨a1,a2,a3,a4⟩:=h;rcases a1 with ⟨-,e⟩|⟨g,sp,h1,h2,h3,h4⟩;exact absurd e hl;exact⟨g,rs.length+sp,h1,by omega,h3,⟨_,h4⟩,h2,a2,a3,a4⟩
end
theorem Zpr(A:Option Addr)(n c m:Nat)(Q:List (List Rat))(w:World)(h:MFL w A n c Q)(hn9:n<=900)(hm:∀ i,i<n->(Q[i]?.getD []).length=m)(hm0:0<m)(hm9:m<=900) :
    Calls Tryz.prog 87 #[.slice A n c] w λe w'=>∃ v rs,e=.returned v/\Below w.heap.size w w'/\MatOA 35 41 w' w.heap.size v rs Q:=by
 obtain⟨iF,hi,c3,b5,b0⟩:=info_parts Zdg;obtain⟨iS,ki,c4,c5,b4⟩:=info_parts Zeu;have hmx:Tryz.prog.follows .mixedOrders=true:=by kernel_rfl
 have hl:=Za h.1;have c9:=h.2.1;have b7:=h.2.2.1;unfold maxLen at b7;have b1:(35:TypeId)≠41:=by decide
 replace hm:=Za hm;replace h:=Za h;go_enter Tryz.func87,Tryz.ntmps87;go_wp2_with fail
 go_loopg [3,4] n (λk ov iv wr=>∃ (i:Nat) (rs:List RS),i+k=n/\iv=.int .i64 i/\MatOA 35 41 wr w.heap.size ov rs (Q.take i)/\Below w.heap.size w wr)
 case atStart=>exact⟨0,[],by omega,rfl,MatOA.nil _ _ _ _,Qb _ _⟩
 case round =>
  obtain⟨i,rs,c8,rfl,hM,hB⟩:=hrel
  have c7:rs.length=i:=by
   rw[hM.2.1,Qv,hl.out];omega
  cases gk with
  | zero =>
   obtain rfl:i=n:=by omega
   have t1:decide ((i:Int)<(i:Int))=false:=by simp
   replace hM:=Za hM;go_wp2_with fail;go_ret;refine⟨_,rs,rfl,hB,?_⟩;have h1:=hM.out;rw[List.take_of_length_le (by rw[hl.out];exact Qc _)]at h1;exact h1
  | succ j =>
   obtain rfl:j=n-(i+1):=by omega
   have I:i<n:=by omega
   have t1:decide ((i:Int)<(n:Int))=true:=decide_eq_true (by omega);have bi:(i:Int)<(n:Int):=by omega
   obtain⟨g,o,A1,n1,c1,rfl,k0,hF⟩:=(h.out.below hB).at_ I;have c0:n1=m:=by rw[<- hF.len];exact hm.out i I
   subst c0;have a3:=hF.below ((Qb wr.heap.size wr).alloc (Qc _) (.cells #[] 41));have k1:=Zb ((Qb wr.heap.size wr).alloc (Qc _) (.cells #[] 41)) k0;have T:OwnF 41 (wr.alloc (.cells #[] 41)) wr.heap.size (.slice (some ⟨wr.heap.size,0,none⟩) 0 0) []:=⟨[],.inr ⟨wr.heap.size,0,rfl,Qc _,Qz _,QB _ _ _⟩,λe he=>(by cases he),rfl⟩;obtain⟨fs,hR,a6,Y,V⟩:=a3.reads;have a4:Below wr.heap.size wr (wr.alloc (.cells #[] 41)):=(Qb wr.heap.size wr).alloc (Qc _) _;replace hM:=Za hM;clear hF a3
   go_wp2_with (first
    | (at_builtin;refine Zby _ rfl (.tmp 12) (.tmp 16) 35 rfl wr.heap.size 41 iF Tryz.underlying35 hi c3 b5 b0 _ [] rfl T _ _ _ _ fs rfl hR a6 Y (by simp;omega) (by simp) ?_
       intro v2 w2 u a2 a9;have f:Below wr.heap.size wr w2:=a4.grown a2 a4.size (λk hk=>by cases hk;exact Qc _);rw[Qy,V]at u;obtain⟨vA,vc,rfl,-⟩:=u.fl;have a7:=hM.out.kept f;have a8:(Q[i]?.getD []).length=n1:=hm.out i I;rw[a8]at u ⊢;have y:Below w2.heap.size w2 (w2.alloc (.cells #[.slice vA n1 vc] 35)):=(Qb _ _).alloc (Qc _) _;have J:=a7.kept y;have b2:=hB.trans ((f.mono hB.size).trans (y.mono (Qi hB.size f.size)));have U:=u.kept y
       have b3:Hid (Q.take i ++ [Q[i]?.getD []]=Q.take (i+1)):=Za (by
        rw[List.take_add_one,Qd (by rw[hl.out];exact I)];rfl)
       have c2:=Zh0 w2 vA n1 vc 35;have O:=J.1;have b8:rs.length+1<=1000:=by omega
       have a5:w.heap.size<=(w2.alloc (.cells #[.slice vA n1 vc] 35)).heap.size:=Qi hB.size (Qi f.size y.size);replace J:=Za J;replace U:=Za U;clear a9 a2 T hR Y V a6 a7 u)
    | (at_builtin;refine Zcw _ rfl (.tmp 11) (.tmp 18) 25 rfl w.heap.size 35 iS Tryz.underlying25 ki c4 c5 b4 _ _ rfl O _ _ 1 1 [⟨vA,n1,vc⟩] rfl c2 rfl b8 a5 ?_;intro v5 w5 b6 a0 c6))
   have C:=J.out.snoc b1 (r:=⟨vA,n1,vc⟩) U.out hB.size (λs hs k hk=>by
    obtain⟨j,hj,rfl⟩:=Qs hs;obtain⟨cs,a1,-,-⟩:=(hM.out.2.2.1 j _ (Qd hj)).ownBlk k hk;exact a1.lt) b6 a0 c6
   rw[b3.out]at C;have b9:=b2.grown a0 a5 (λk hk=>O.row_ge k hk);replace C:=Za C
   go_roundg (n-(i+1))
   case measure=>omega
   case rel=>exact⟨i+1,_,by omega,by go_num,C.out,b9⟩
open Go.RowKit Go.Shelf
attribute [local go_sem] Oper.semAt_some
def rsAt(es:List RS)(k:Nat):RS:=es[k]?.getD ⟨none,0,0⟩
def SL(w:World)(A:Option Addr)(n c:Nat)(es:List RS):Prop:=
 es.length=n/\n<=c/\c<=maxLen/\(0<n->∃ g o,A=some ⟨g,o,none⟩/\∀ (k:Nat) (e:RS),es[k]?=some e->w.cell? ⟨g,o+k,none⟩=some (.slice e.A e.n e.c))
theorem SL.below{w w':World}{A:Option Addr}{n c:Nat}{es:List RS}(h:SL w A n c es)(hb:Below w.heap.size w w'):SL w' A n c es:=
 ⟨h.1,h.2.1,h.2.2.1,λhn=>by
  obtain⟨b,o,e,hc⟩:=h.2.2.2 hn;exact⟨b,o,e,λk x hx=>Zb hb (hc k x hx)⟩⟩
theorem SL.at_{w:World}{A:Option Addr}{n c:Nat}{es:List RS}(h:SL w A n c es){k:Nat}(hk:k<n):∃ b o e,A=some ⟨b,o,none⟩/\es[k]?=some e/\w.cell? ⟨b,o+k,none⟩=some (.slice e.A e.n e.c):=by
 obtain⟨h1,-,-,h4⟩:=h;obtain⟨b,o,e,hc⟩:=h4 (by omega);have he:=Qd (l:=es) (i:=k) (by omega);exact⟨b,o,es[k],e,he,hc k _ he⟩
theorem sl_kept{W W':World}{row:Option Nat}{A:Option Addr}{n c:Nat}{es:List RS}(h:SL W A n c es)(hg:W.grownBy W' row)(hrow:∀ r,row=some r->∃ o:Obj,W.heap[r]?=some o/\o.isCells=false):SL W' A n c es:=
 ⟨h.1,h.2.1,h.2.2.1,λhn=>by
  obtain⟨b,o,e,hc⟩:=h.2.2.2 hn;exact⟨b,o,e,λk x hx=>cell_kept (hc k x hx) hg hrow⟩⟩
def KpR(Bs:Nat)(A:Option Addr)(n c:Nat)(es:List RS)(W W':World):Prop:=
 (W.cell? ⟨Bs,0,none⟩=some (.slice A n c)->W'.cell? ⟨Bs,0,none⟩=some (.slice A n c))/\(SL W A n c es->SL W' A n c es)
theorem KpR.trans{Bs n c:Nat}{A:Option Addr}{es:List RS}{W1 W2 W3:World}(h:KpR Bs A n c es W1 W2)(k:KpR Bs A n c es W2 W3):KpR Bs A n c es W1 W3:=⟨λx=>k.1 (h.1 x),λx=>k.2 (h.2 x)⟩
theorem KpR.put{Bs n c:Nat}{A:Option Addr}{es:List RS}(W:World)(lp:Nat)(o o':Obj)(ho:W.heap[lp]?=some o)(hc:o.isCells=false):KpR Bs A n c es W (W.putObj lp o'):=
 ⟨λh=>cell_kept h (grownBy_putObj' W lp o') (λr e=>by cases e;exact⟨o,ho,hc⟩),λh=>sl_kept h (grownBy_putObj' W lp o') (λr e=>by cases e;exact⟨o,ho,hc⟩)⟩
theorem Zv3(A:Option Addr)(n c:Nat)(w:World) :
    Calls Tryz.prog 129 #[.slice A n c] w λe w'=>e=.returned (.func (.func 177) #[] #[.pointer (some ⟨w.heap.size,0,none⟩)])/\w.alloc (.cells #[.slice A n c] 149)=w':=by
 go_enter Tryz.func129,Tryz.ntmps129
 go_wp2
 go_ret;exact⟨rfl,rfl⟩
def Zyk(d:Nat)(P:Program)(gf:Nat)(lb:Array Value)(encs:Nat->Array Value)(Kp:World->World->Prop)(N:Nat)(w:World):Prop:=
 ∀ (l:Nat) (J:Nat->World->Prop) (W:World),Below w.heap.size w W->AbidesFrom W.heap.size J ->
  (∀ k V,k<N->J k V->YieldAt Fence.wide (d-1) P l (encs k) V λe V'=>e=.returned (.bool true)/\J (k+1) V'/\Kp V V') ->
  J 0 W->CallsIn Fence.wide d P gf (#[.func (.yield l) #[] #[]]++lb) W λe V'=>(∃ v,e=.returned v)/\J N V'
def goesOn(Kp:World->World->Prop)(J:World->Prop)(W:World):Exit->Act->World->Prop
 | .normal,_,W'=>KeepsOthers W W'/\Kp W W'/\J W'
 | .ret,_,_=>False
 | .exit _,_,_=>False
 | .goto _,_,_=>False
 | .panic _,_,_=>False
 | .outgrown,_,_=>False
theorem Zm4{d:Nat}{P:Program}{g:Operand}{ps:Array Tmp}{assign body:Code}{Q:Exit->Act->World->Prop}{a:Act}{w:World}(h1:1<=d){gf:Nat}{lb:Array Value}
    (hg:a.eval g=.func (.func gf) #[] lb) (eg:∀ args w,(callFunc gf args).run P w=.ok (.enter gf args) w)
    {encs:Nat->Array Value} {Kp:World->World->Prop} {N:Nat} {w0:World} (hseq:Zyk (d-1) P gf lb encs Kp N w0)
    (hKt:∀ {A B C:World},Kp A B->Kp B C->Kp A C) (hKb:∀ (W:World) (l:Nat) (o o':Obj),w.heap.size<=l->W.heap[l]?=some o->o.isCells=false->o.isWalk=false->Kp W (W.putObj l o')) (hb0:Below w0.heap.size w0 w) (hps:∀ k,(encs k).size=ps.size)
    (I:Nat->World->Prop) (hI:OwnFrom w.heap.size I) (h0:I 0 w) (a₁:Nat->Act)
    (hassign:∀ (l k:Nat) (W:World) (K:Act->World->Prop),k<N->K (a₁ k) W ->
     assign.wpIn (Fence.wide.inRound l) (d-1-1) P (Exit.then K (λ_ _ _=>False)) { tmps:=(ps.zip (encs k)).foldl (λt (p,v)=>t.setIfInBounds p v) a.tmps,defers:=[] } W)
    (hbody:∀ (l k:Nat) (W:World),k<N->I k W->body.wpIn (Fence.wide.inRound l) (d-1-1) P (goesOn Kp (I (k+1)) W) (a₁ k) W)
    (hdone:∀ (D:Nat) (W:World),w.heap.size<=D->I N W->W.heap[D]?=some (.deferred (some []))->Q .normal { a with defers:={ target:=.collected D,args:=#[] } :: a.defers } W) :
    (Code.rangeFunc g ps assign body).wpIn Fence.wide d P Q a w:=by
 refine wpIn_rangeFunc λfn hfn=>?_;rw[show Fence.wide.round=none from rfl];obtain⟨B,hB⟩:∃ B,w.heap.size=B:=⟨_,rfl⟩;rw[hB]at hI hKb hdone;obtain⟨rec,f⟩:∃ rec:LoopState->Option Code->Loop,rec=λst pe=>{ state:=st,pending:=pe,fn,tmps:=a.tmps,params:=ps,assign,body,defers:=B }:=⟨_,rfl⟩;obtain⟨W1,y⟩:∃ V,(w.alloc (.deferred (some []))).alloc (.loop (rec .ready none))=V:=⟨_,rfl⟩;have sz:W1.heap.size=B+1+1:=by rw[<- y,<- hB];simp
 have lp:W1.heap[B+1]?=some (.loop (rec .ready none)):=by
  have h:=World.alloc_heap_new (w.alloc (.deferred (some []))) (.loop (rec .ready none));rw[Qw,hB,y]at h;exact h
 have df:W1.heap[B]?=some (.deferred (some [])):=by
  rw[<- y,<- hB];exact(Below.heap_alloc _ _ _ (by simp)).trans (World.alloc_heap_new w _)
 have i1:I 0 W1:=by rw[<- y];exact hI.alloc _ (hI.alloc _ h0)
 have b1:Below w0.heap.size w0 W1:=by
  rw[<- y];exact hb0.trans (((Qb _ w).alloc (Qc _) _).trans ((Qb _ _).alloc (by simp) _) |>.mono hb0.size)
 obtain⟨J,hJ⟩:∃ J:Nat->World->Prop,J=λk W=>I k W/\W.heap[B+1]?=some (.loop (rec .ready none))/\W.heap[B]?=some (.deferred (some [])):=⟨_,rfl⟩
 have key:=hseq (B+1) J W1 b1 (λk X Y row hs hgr hr=>by
     rw[hJ]at hs ⊢;have U:∀ r,row=some r->∃ o:Obj,X.heap[r]?=some o/\o.isWalk=true:=λr e=>(hr r e).2;refine⟨hI k X Y row hs.1 hgr (λr e=>?_),(grownBy_keeps hgr U hs.2.1 rfl).trans hs.2.1,(grownBy_keeps hgr U hs.2.2 rfl).trans hs.2.2⟩;obtain⟨hl,o,ho,hw⟩:=hr r e;exact⟨by omega,o,ho,Obj.not_cells_of_walk hw⟩)
  (λk V hk hs=>by
   rw[hJ]at hs;obtain⟨hi,hl,hd⟩:=hs;have a5:B+1<V.heap.size:=(Array.getElem?_eq_some_iff.1 hl).1;have hy:=run_yield (P:=P) (args:=encs k) hl (by rw[f];exact hps k);rw[f]at hy;obtain⟨V2,O⟩:∃ X,V.putObj (B+1) (.loop { rec .ready none with state:=.busy })=X:=⟨_,rfl⟩;refine⟨fn,_,assign,body,hy,roundIn_of_wpIn hfn (hassign _ k V _ hk ⟨V2,by rw[<- O];exact run_beginRound hl (by rw[f]),?_⟩)⟩;have a1:V2.heap[B+1]?=some (.loop { rec .ready none with state:=.busy }):=by rw[<- O];exact World.putObj_heap_same a5
   have a0:V2.heap[B]?=some (.deferred (some [])):=by rw[<- O];exact(World.putObj_heap_other (by omega)).trans hd
   have a4:Kp V V2:=by rw[<- O];exact hKb _ _ _ _ (by omega) hl rfl rfl
   have a2:I k V2:=by rw[<- O];exact hI.putObj _ hi (by omega) hl rfl
   refine wpIn_mono (hbody _ k V2 hk a2) λe a3 V3 hq=>?_;cases e with
   | normal =>
    obtain⟨ko,kp,i3⟩:=hq;have T:=ko.same _ _ a1 rfl;have u:=run_endRound (P:=P) none T;rw[f]at u T;refine⟨_,_,u,rfl,?_,hKt (hKt a4 kp) (hKb _ _ _ _ (by omega) T rfl rfl)⟩;rw[hJ];refine⟨hI.putObj _ i3 (by omega) T rfl,?_,(World.putObj_heap_other (by omega)).trans (ko.same _ _ a0 rfl)⟩;rw[f];exact World.putObj_heap_same (Array.getElem?_eq_some_iff.1 T).1
   | ret=>exact hq.elim
   | exit id=>exact hq.elim
   | goto t=>exact hq.elim
   | panic ch=>exact hq.elim
   | outgrown=>exact hq.elim)
  (by rw[hJ];exact⟨i1,lp,df⟩)
 refine⟨B+1,[{ target:=.collected B,args:=#[] }],W1,{ target:=.fn (.func gf) lb,args:=#[.func (.yield (B+1)) #[] #[]] },W1,gf,#[.func (.yield (B+1)) #[] #[]]++lb,W1,?_,?_,λ_ _=>trivial,?_,λ_=>h1,?_⟩;rw[<- y,f,<- hB];exact run_enterLoop_outer _ _ _ _ _
 ·simp only[resolve,hg]
  simp[go_sem]
 ·simp[invoke,go_sem,eg]
 ·refine key.mono ?_
  rintro e W2 ⟨⟨v,rfl⟩,hs⟩;rw[hJ]at hs;obtain⟨hi,hl,hd⟩:=hs;have u:=run_endLoop (P:=P) hl (by rw[f];simp);rw[f]at u;exact⟨none,_,u,hdone _ _ (Qc _) (hI.putObj _ hi (by omega) hl rfl) ((World.putObj_heap_other (by omega)).trans hd)⟩
def Zmt(es:List RS)(n:Nat)(k:Nat):Array Value:=#[.int .i64 ((n-1-k:Nat):Int),RS.val (rsAt es (n-1-k))]
theorem Zwf(d:Nat)(hd:1<=d)(Bs n c:Nat)(A:Option Addr)(es:List RS)(w:World)(hc:w.cell? ⟨Bs,0,none⟩=some (.slice A n c))(hL0:SL w A n c es) :
    Zyk d Tryz.prog 177 #[.pointer (some ⟨Bs,0,none⟩)] (Zmt es n) (KpR Bs A n c es) n w:=by
 intro lp J W hW _ hY h0;have O:W.cell? ⟨Bs,0,none⟩=some (.slice A n c):=(hW.cell (Zo hc)).trans hc;have hL:SL W A n c es:=hL0.below hW;clear hW hc hL0;have Y:=hL.2.1;have T:=hL.2.2.1;unfold maxLen at T;refine callsIn_of_wp Tryz.func177 rfl trivial ?_ rfl;simp only[Tryz.ntmps177,QG,List.length_cons,List.length_nil,Nat.reduceAdd,Nat.reduceSub,Array.replicate_succ,Array.replicate_zero,List.push_toArray,List.append_toArray,Qy,List.cons_append]
 gi_wp2
 gi_loopw [3] (λi wr=>∃ k:Nat,k<=n/\i=.int .i64 ((n:Int)-1-k)/\J k wr/\Hid (wr.cell? ⟨Bs,0,none⟩=some (.slice A n c))/\SL wr A n c es)
  (λi _=>(intOf i+1).toNat)
 case atStart=>exact⟨0,Qz _,by go_num,h0,O,hL⟩
 case round =>
  obtain⟨k,hk,rfl,h,f,y⟩:=hrel;have V:=f.out;by_cases hlt:k<n
  ·obtain⟨b,o,e,rfl,he,U⟩:=y.at_ (k:=n-1-k) (by omega)
   obtain⟨fn,tmps,assign,body,hy,hR⟩:=hY k wr hlt h;dsimp only[Zmt,RS.val,rsAt]at hy;rw[he,Option.getD_some]at hy;rw[show ((n-1-k:Nat):Int)=(n:Int)-1-k by omega]at hy
   gi_wp2
   refine hR.mono ?_;rintro e W3 ⟨rfl,I,u⟩;have C:=Za (u.1 f.out)
   gi_wp2
   go_roundw
   case rel=>exact⟨k+1,by omega,by go_num,I,C,u.2 y⟩
   case measure=>simp[intOf];omega
  ·obtain rfl:k=n:=by omega
   gi_wp2
   go_end0
   exact⟨⟨_,rfl⟩,h⟩
theorem Zsm(na:Bool)(A B:Option Addr)(n c m d:Nat)(za zb:Int)(w:World)(ha:Wd w na A n c za)(hb:Wd w true B m d zb)(h0:zb<0) :
    Calls Tryz.prog 157 #[.agg #[.bool na,.slice A n c],.agg #[.bool true,.slice B m d]] w (Zd0 w (QE za zb)):=by
 have g5:=Zdn ha.small hb.small;have hx:=Za (Zjm (a:=za) (b:=zb) (by omega));have hy:=Za (Zi5 (a:=za) (b:=zb) (by omega));have b0:=Za (Zk6 (a:=za) (b:=zb) (by omega));have e5:Zf6 za zb=-((Nat.gcd za.natAbs zb.natAbs:Nat):Int):=by unfold Zf6;rw[if_pos h0]
 rw[e5]at hx hy b0;have HA:=Za ha;have HB:=Za hb;obtain⟨G,hG⟩:∃ G,Nat.gcd za.natAbs zb.natAbs=G:=⟨_,rfl⟩;rw[hG]at hx hy b0 g5
 have HGc:Hid (∀ W:World,Wd W na A n c za->Wd W true B m d zb->Calls Tryz.prog 151 #[.agg #[.bool na,.slice A n c],.agg #[.bool true,.slice B m d]] W (ResW W (G:Int))):=λW h1 h2=>by
  have:=Zj3 na true A B n c m d za zb W h1 h2;rw[hG]at this;exact this
 generalize QE za zb=R at *;clear ha hb hG e5;have c6:∀ X Y Z:Obj,Below w.heap.size w (((w.alloc X).alloc Y).alloc Z):=λX Y Z=>(((Qb w.heap.size w).alloc (Qc _) _).alloc (by simp) _).alloc (by simp;omega) _;have c6:=Za c6;go_enter Tryz.func157,Tryz.ntmps157;go_wp2_with fail;have q0:Blk (((w.alloc (.cells #[.bool na,.slice A n c] 39)).alloc (.cells #[.bool true,.slice B m d] 39)).alloc (.cells #[.bool false,.slice none 0 0,.bool false,.slice none 0 0] 41)) w.heap.size 39 #[.bool na,.slice A n c]:=((QB _ _ _).alloc _).alloc _
 have q1:Blk (((w.alloc (.cells #[.bool na,.slice A n c] 39)).alloc (.cells #[.bool true,.slice B m d] 39)).alloc (.cells #[.bool false,.slice none 0 0,.bool false,.slice none 0 0] 41)) (w.heap.size+1) 39 #[.bool true,.slice B m d]:=by
  have:=(QB (w.alloc (.cells #[.bool na,.slice A n c] 39)) 39 #[.bool true,.slice B m d]).alloc (.cells #[.bool false,.slice none 0 0,.bool false,.slice none 0 0] 41);simp only[Qw]at this;exact this
 have q2:Blk (((w.alloc (.cells #[.bool na,.slice A n c] 39)).alloc (.cells #[.bool true,.slice B m d] 39)).alloc (.cells #[.bool false,.slice none 0 0,.bool false,.slice none 0 0] 41)) (w.heap.size+1+1) 41 #[.bool false,.slice none 0 0,.bool false,.slice none 0 0]:=by
  have:=QB ((w.alloc (.cells #[.bool na,.slice A n c] 39)).alloc (.cells #[.bool true,.slice B m d] 39)) 41 #[.bool false,.slice none 0 0,.bool false,.slice none 0 0];simp only[Qw]at this;exact this
 refine(HGc.out _ (((HA.out.alloc _).alloc _).alloc _) (((HB.out.alloc _).alloc _).alloc _)).mono ?_;rintro e w1 ⟨I,ng,Ag,kg,cg,code,rfl,hR⟩;rcases hR with ⟨-,rfl,g1⟩|⟨d0,-⟩
 case inr=>exact absurd d0 (by omega)
 have a2:Below w.heap.size w w1:=(c6.out _ _ _).trans (I.mono (by simp;omega));have e8:=Za (HA.out.below a2);have f4:=Za (HB.out.below a2);have s1:w.heap.size+1+1<w1.heap.size:=by have:=I.size;simp at this;omega
 replace q0:=Zd I q0;replace q1:=Zd I q1;replace q2:=Zd I q2;obtain⟨V,T,-,-⟩:=q0.two;obtain⟨y,C,-,-⟩:=q1.two;have hq:=Za (Qe q0 (Qe q1 q2));clear q0 q1 q2 I;go_wp2_with fail;refine(Zer ng Ag kg cg _).mono ?_;rintro e w2 ⟨rfl,o⟩;have e3:Below w.heap.size w w2:=a2.trans (o.mono a2.size);have e2:=Za (e8.out.below o);have d7:=Za (f4.out.below o);have e9:=Za (g1.below o);have s2:w.heap.size+1+1<w2.heap.size:=by have:=o.size;omega
 have q0:=Zd o hq.out.1;have q1:=Zd o hq.out.2.1;have q2:=Zd o hq.out.2.2;clear V T y C a2 o g1 e8 f4 hq;obtain⟨W3,a6,d4,q3,kW,kB,s3⟩:=Zt 39 #[.bool ng,.slice Ag kg cg] e3 (by omega);replace q0:=kB _ _ _ q0;replace q1:=kB _ _ _ q1;replace q2:=kB _ _ _ q2;have f5:=Za (kW _ _ _ _ _ e2.out);have d6:=Za (kW _ _ _ _ _ d7.out);have b1:=Za (kW _ _ _ _ _ e9.out);have s4:w.heap.size+1+1<w2.heap.size:=s2;clear kW kB e2 d7 e9 e3;have c0:=Za q0.two;have c1:=Za q1.two;have c3:=Za q3.two;rw[<- a6]at c0 c1 c3;obtain⟨V,T,-,-⟩:=c0.out;obtain⟨y,C,-,-⟩:=c1.out;obtain⟨a0,a4,-,-⟩:=c3.out;have hq:=Za (Qe q0 (Qe q1 (Qe q2 q3)));clear q0 q1 q2 q3;replace a6:=Za a6;go_wp2_with fail;rw[a6.out];refine(Neg_ok ng Ag kg cg G W3 b1.out).mono ?_;rintro e w4 ⟨h,n5,A5,k5,c5,code,rfl,hR⟩;have b4:(-(G:Int)).natAbs<pw 4096:=by rw[Int.natAbs_neg];exact b1.out.small
 have e4:=Za (hR.small b4);have b6:=hR.code0 b4;subst b6;have a1:Below w.heap.size w w4:=d4.trans (h.mono (by omega));have d5:=Za (f5.out.below h);have U:=Za (d6.out.below h);have s5:w2.heap.size+1<=w4.heap.size:=by have:=h.size;omega
 have q0:=Zd h hq.out.1;have q1:=Zd h hq.out.2.1;have q2:=Zd h hq.out.2.2.1;have q3:=Zd h hq.out.2.2.2;clear h c0 c1 c3 V T y C a0 a4 a6 f5 d6 b1 d4 hq hR b4;have hq:=Za (Qe q0 (Qe q1 (Qe q2 q3)));clear q0 q1 q2 q3;go_wp2_with fail;refine(Zer n5 A5 k5 c5 _).mono ?_;rintro e w5 ⟨rfl,f⟩;have a7:Below w.heap.size w w5:=a1.trans (f.mono (by omega));have f0:=Za (d5.out.below f);have a8:=Za (U.out.below f);have d8:=Za (e4.out.below f);have s6:w4.heap.size<=w5.heap.size:=f.size;have q0:=Zd f hq.out.1;have q1:=Zd f hq.out.2.1;have q2:=Zd f hq.out.2.2.1;have q3:=Zd f hq.out.2.2.2;clear f d5 U e4 a1 hq;obtain⟨W7,a3,a9,b5,kW,kB,s7⟩:=Zbe n5 A5 k5 c5 a7 (by omega) q3;replace q0:=kB _ _ _ (by omega) q0;replace q1:=kB _ _ _ (by omega) q1;replace q2:=kB _ _ _ (by omega) q2;have f6:=Za (kW _ _ _ _ _ f0.out);have e7:=Za (kW _ _ _ _ _ a8.out);have b3:=Za (kW _ _ _ _ _ d8.out);obtain⟨g6,h3,g9,g4⟩:=q3.two;have c0:=Za q0.two;have c1:=Za q1.two;have c3:=Za b5.two;obtain⟨V,T,-,-⟩:=c0.out;obtain⟨y,C,-,-⟩:=c1.out;obtain⟨a0,a4,-,-⟩:=c3.out;have hq:=Za (Qe q0 (Qe q1 (Qe q2 b5)));clear q0 q1 q2 q3 b5 kW kB f0 a8 d8 a7;replace a3:=Za a3;have g2:=a3.out;go_wp2_with fail;(try rw[a3.out]);clear g6 h3 g9 g4 g2;refine(Zf1 na n5 A A5 n c k5 c5 za (-(G:Int)) _ f6.out b3.out b0.out).mono ?_;rintro e w9 ⟨u,nx,Ax,kx,cx,nr,Ar,kr,cr,rfl,b9,-⟩
 rw[hx.out]at b9;have a1:Below w.heap.size w w9:=a9.trans (u.mono (by omega));have U:=Za (e7.out.below u);have c9:=Za (b3.out.below u);have s8:w2.heap.size+1<=w9.heap.size:=by have:=u.size;omega
 have q1:=Zd u hq.out.2.1;have q2:=Zd u hq.out.2.2.1;have q3:=Zd u hq.out.2.2.2;clear u c0 c1 c3 V T y C a0 a4 a3 f6 e7 b3 a9 hq;obtain⟨W5,b8,a7,q5,kW,kB,s6⟩:=Zt 39 #[.bool nx,.slice Ax kx cx] a1 (by omega);replace q1:=kB _ _ _ q1;replace q2:=kB _ _ _ q2;replace q3:=kB _ _ _ q3;have a8:=Za (kW _ _ _ _ _ U.out);have d9:=Za (kW _ _ _ _ _ c9.out);have f9:=Za (kW _ _ _ _ _ b9);clear kW kB U c9 b9 a1;obtain⟨W6,J,g0,-,kW,kB,s7⟩:=Zt 39 #[.bool nr,.slice Ar kr cr] a7 (by omega);replace q1:=kB _ _ _ q1;replace q2:=kB _ _ _ q2;replace q3:=kB _ _ _ q3;replace q5:=kB _ _ _ q5;have f3:=Za (kW _ _ _ _ _ a8.out);have c7:=Za (kW _ _ _ _ _ d9.out);have f7:=Za (kW _ _ _ _ _ f9.out);clear kW kB a8 d9 f9 a7;have c1:=Za q1.two;have c3:=Za q3.two;rw[<- J,<- b8]at c1 c3;obtain⟨y,C,-,-⟩:=c1.out;obtain⟨a0,a4,-,-⟩:=c3.out;have hq:=Za (Qe q2 q5);clear q1 q2 q3 q5;rw[<- b8]at J;replace J:=Za J;clear b8;go_wp2_with fail;rw[J.out];refine(Zf1 true n5 B A5 m d k5 c5 zb (-(G:Int)) _ f3.out c7.out b0.out).mono ?_;rintro e w7 ⟨O,ny,Ay,ky,cy,ns,As,ks,cs,rfl,b2,-⟩;rw[hy.out]at b2;have a9:Below w.heap.size w w7:=g0.trans (O.mono (by omega));have e1:=Za (f7.out.below O);have i1:w9.heap.size+2<=w7.heap.size:=by have:=O.size;omega
 have q2:=Zd O hq.out.1;have q5:=Zd O hq.out.2;clear O c1 c3 y C a0 a4 J f3 c7 f7 g0 hq;obtain⟨W8,c4,e6,q8,kW,kB,s9⟩:=Zt 39 #[.bool ny,.slice Ay ky cy] a9 (by omega);replace q2:=kB _ _ _ q2;replace q5:=kB _ _ _ q5;have e0:=Za (kW _ _ _ _ _ e1.out);have d3:=Za (kW _ _ _ _ _ b2);clear kW kB e1 b2 a9;obtain⟨W9,a5,b7,-,kW,kB,h5⟩:=Zt 39 #[.bool ns,.slice As ks cs] e6 (by omega);replace q2:=kB _ _ _ q2;replace q5:=kB _ _ _ q5;replace q8:=kB _ _ _ q8;have g8:=Za (kW _ _ _ _ _ e0.out);have g7:=Za (kW _ _ _ _ _ d3.out);clear kW kB e0 d3 e6;have c5:=Za q5.two;have c8:=Za q8.two;have c2:=Za q2.four;have hq:=Za q2;rw[<- a5,<- c4]at c5 c8 c2;rw[<- c4]at a5;clear c4 q2 q5 q8;obtain⟨h7,i2,-,-⟩:=c5.out;obtain⟨i4,h9,-,-⟩:=c8.out;obtain⟨i3,h4,i7,i5,i0,h6,i6,h8⟩:=c2.out;replace a5:=Za a5;replace b7:=Za b7;go_wp2_with fail;rw[a5.out];obtain⟨W,hW,hB,f8,kW,-⟩:=Zaa nx Ax kx cx ny Ay ky cy b7.out (by omega) hq.out;rw[hW];obtain⟨r0,r1,r2,r3,-⟩:=f8.four;refine bodyPost_ret (v:=.agg #[.bool nx,.slice Ax kx cx,.bool ny,.slice Ay ky cy]) (by simp[results,Tryz.results157,go_sem,r0,r1,r2,r3]) rfl ?_;exact⟨hB,_,_,_,_,_,_,_,_,rfl,kW _ _ _ _ _ g8.out,kW _ _ _ _ _ g7.out⟩
theorem Zrv(na nb:Bool)(A B:Option Addr)(n c m d:Nat)(za zb:Int)(w:World)(ha:Wd w na A n c za)(hb:Wd w nb B m d zb)(h0:zb≠0) :
    Calls Tryz.prog 157 #[.agg #[.bool na,.slice A n c],.agg #[.bool nb,.slice B m d]] w (Zd0 w (QE za zb)):=by
 by_cases hn:zb<0
 ·have:nb=true:=by rw[hb.1];exact decide_eq_true hn
  subst this;exact Zsm na A B n c m d za zb w ha hb hn
 ·have:nb=false:=by rw[hb.1];exact decide_eq_false hn
  subst this;exact Zin na A B n c m d za zb w ha hb (by omega)
theorem Zw9(F:FuncId)(na nb na' nb':Bool)(A B A' B':Option Addr)(n c m d n' c' m' d':Nat)(a b:Rat)(X Y:Int)(w:World)(ha:Fr w na A n c nb B m d a)(hb:Fr w na' A' n' c' nb' B' m' d' b)(hY:Y≠0)(hcf:∀ (x y:Value) (W:World),(callFunc F #[x,y]).run Tryz.prog W=.ok (.enter F #[x,y]) W)
    (hF:∀ W:World,Fr W na A n c nb B m d a->Fr W na' A' n' c' nb' B' m' d' b->Calls Tryz.prog F #[.agg #[.bool na,.slice A n c,.bool nb,.slice B m d],.agg #[.bool na',.slice A' n' c',.bool nb',.slice B' m' d']] W (Zp4 W X Y)) :
    Calls Tryz.prog 130 #[.agg #[.bool na,.slice A n c,.bool nb,.slice B m d],.agg #[.bool na',.slice A' n' c',.bool nb',.slice B' m' d'],.func (.func F) #[] #[]] w (Zgz w (QE X Y)):=by
 obtain⟨W0,O,J,⟨q0,q1,q2,q3⟩,s0⟩:=Zg2 w 41 #[.bool na,.slice A n c,.bool nb,.slice B m d] 41 #[.bool na',.slice A' n' c',.bool nb',.slice B' m' d'] 41 #[.bool false,.slice none 0 0,.bool false,.slice none 0 0] 26 #[.int .i64 0];have hA:=Za (ha.below J);have hD:=Za (hb.below J);replace hF:=Za hF;clear ha hb;replace O:=Za O;obtain⟨a0,a1,a2,a3,-⟩:=q0.four;have hq:=Za (Qe q0 (Qe q1 (Qe q2 q3)));clear q0 q1 q2 q3
 go_enter_defers Tryz.func130,Tryz.ntmps130
 have b5:=O.out;go_wp2_with fail;clear O b5;refine(Zd9 na nb A B n c m d a W0 hA.out).mono ?_;rintro e w1 ⟨rfl,h⟩;have a5:Below w.heap.size w w1:=J.trans (h.mono J.size);have s1:W0.heap.size<=w1.heap.size:=h.size;replace hA:=Za (hA.out.below h);replace hD:=Za (hD.out.below h);obtain⟨q0,q1,q2,q3⟩:=hq.out;replace q0:=Zd h q0;replace q1:=Zd h q1;replace q2:=Zd h q2;replace q3:=Zd h q3;clear hq h J a0 a1 a2 a3;obtain⟨b0,b1,b2,b3,-⟩:=q1.four;have hq:=Za (Qe q0 (Qe q1 (Qe q2 q3)));clear q0 q1 q2 q3;go_wp2_with fail;refine(Zfk w1).mono ?_;rintro e w1 ⟨rfl,rfl⟩;go_wp2_with fail;refine(Zd9 na' nb' A' B' n' c' m' d' b w1 hD.out).mono ?_;rintro e w2 ⟨rfl,o⟩;have a4:Below w.heap.size w w2:=a5.trans (o.mono a5.size);have s2:w1.heap.size<=w2.heap.size:=o.size;replace hA:=Za (hA.out.below o);replace hD:=Za (hD.out.below o);obtain⟨q0,q1,q2,q3⟩:=hq.out;replace q0:=Zd o q0;replace q1:=Zd o q1;replace q2:=Zd o q2;replace q3:=Zd o q3;clear hq o a5 b0 b1 b2 b3;obtain⟨a0,a1,a2,a3,-⟩:=q0.four;obtain⟨b0,b1,b2,b3,-⟩:=q1.four;have hq:=Za (Qe q2 q3);clear q0 q1 q2 q3;go_wp2_with fail;refine(Zfk w2).mono ?_;rintro e w2 ⟨rfl,rfl⟩;go_wp2_with fail;refine(hF.out w2 hA.out hD.out).mono ?_;rintro e w3 ⟨I,nu,U,k1,u,nv,V,k2,v,rfl,hU,hV⟩;have T:Below w.heap.size w w3:=a4.trans (I.mono a4.size);have s3:w2.heap.size<=w3.heap.size:=I.size;have q2:=Zd I hq.out.1;have q3:=Zd I hq.out.2
 clear hq I a4 a0 a1 a2 a3 b0 b1 b2 b3 hA hD hF;have hq:=Za (Qe q2 q3);replace hU:=Za hU;replace hV:=Za hV;clear q2 q3;go_wp2_with fail;refine(Zrv nu nv U V k1 u k2 v X Y w3 hU.out hV.out hY).mono ?_;rintro e w4 ⟨C,nx,Ax,kx,cx,ny,Ay,ky,cy,rfl,hF⟩;have c0:Below w.heap.size w w4:=T.trans (C.mono T.size);have s4:w3.heap.size<=w4.heap.size:=C.size;have q2:=Zd C hq.out.1;have q3:=Zd C hq.out.2;clear hq C hU hV T;have c2:=Za q2.four;have c3:=q3.cell 0;have f3:=q3.frozen 0;simp at c3;obtain⟨c4,b6,c9,c5,c1,b7,c7,b9⟩:=c2.out;have hq:=Za (Qe q2 q3);clear q2 q3;go_wp2_with fail;obtain⟨W5,a8,a9,q2,kW,kB,s5⟩:=Zaa nx Ax kx cx ny Ay ky cy c0 (by omega) hq.out.1;have q3:=kB _ _ _ (by omega) hq.out.2;have b4:=Za (kW _ _ _ _ _ hF.1);have a6:=Za (kW _ _ _ _ _ hF.2);rw[a8];clear kW kB c4 b6 c9 c5 c3 f3 c1 b7 c7 b9 hq hF;obtain⟨W6,a7,c8,q3,kW,kB,s6⟩:=Zbr 0 a9 (by omega) q3;replace q2:=kB _ _ _ (by omega) q2;have c6:=Za (kW _ _ _ _ _ b4.out);have b8:=Za (kW _ _ _ _ _ a6.out);rw[a7];obtain⟨r0,r1,r2,r3,-⟩:=q2.four;have r4:=q3.cell 0;simp at r4;clear kW kB a9 b4 a6 a8 a7;refine leaves_cons (f:=147) (args:=#[.pointer (some ⟨w.heap.size+1+1+1,0,none⟩)]) (by simp) (by simp[go_sem]) ?_;refine(Zgx _ _).mono ?_;rintro e u' w'' ⟨rfl,rfl,rfl⟩;refine⟨.tuple #[.agg #[.bool nx,.slice Ax kx cx,.bool ny,.slice Ay ky cy],.int .i64 0],by simp[results,Tryz.results130,go_sem,r0,r1,r2,r3,r4],?_⟩;exact⟨c8,_,_,_,_,_,_,_,_,rfl,c6.out,b8.out⟩
theorem Zr9(x y:Value)(W:World):(callFunc 155 #[x,y]).run Tryz.prog W=.ok (.enter 155 #[x,y]) W:=by simp[go_sem]
theorem Div1_ok(na nb na' nb':Bool)(A B A' B':Option Addr)(n c m d n' c' m' d':Nat)(a b:Rat)(w:World)(ha:Fr w na A n c nb B m d a)(hb:Fr w na' A' n' c' nb' B' m' d' b)
    (hs:(a.num*b.den).natAbs<pw 4096) (ht:((a.den:Int)*b.num).natAbs<pw 4096) (h0:b≠0) :
    Calls Tryz.prog 155 #[.agg #[.bool na,.slice A n c,.bool nb,.slice B m d],.agg #[.bool na',.slice A' n' c',.bool nb',.slice B' m' d']] w (Zp4 w (a.num*b.den) ((a.den:Int)*b.num)):=by
 obtain⟨W0,I,C,⟨q0,q1,q2,q3⟩,s0⟩:=Zg2 w 41 #[.bool na,.slice A n c,.bool nb,.slice B m d] 41 #[.bool na',.slice A' n' c',.bool nb',.slice B' m' d'] 39 #[.bool false,.slice none 0 0] 39 #[.bool false,.slice none 0 0]
 have a4:((n':Int) == 0)=false:=by
  have:n'≠0:=λe=>h0 (hb.zero_iff.1 e);simp;omega
 have hmx:Tryz.prog.follows .mixedOrders=true:=by kernel_rfl
 have hA:=Za (ha.below C);have hD:=Za (hb.below C);replace hs:=Za hs;replace ht:=Za ht;have sz:=Za C.size;have hB:=Za C;clear ha hb C s0;replace q0:=Za q0;replace q1:=Za q1;replace q2:=Za q2;replace q3:=Za q3;obtain⟨a0,a1,a2,a3,-⟩:=q0.out.four;obtain⟨b0,b1,b2,b3,-⟩:=q1.out.four;replace I:=Za I;go_enter Tryz.func155,Tryz.ntmps155;go_wp2_with fail;rw[I.out];refine(Zjf na' A' n' c' W0 (Qi hD.out.1.2.1 (by decide)) false a4).mono ?_;rintro e wz ⟨rfl,u⟩;replace q0:=Za (Zd u q0.out);replace q1:=Za (Zd u q1.out);replace q2:=Za (Zd u q2.out);replace q3:=Za (Zd u q3.out);replace hA:=Za (hA.out.below u);replace hD:=Za (hD.out.below u);replace hB:=Za (hB.out.trans (u.mono sz.out));replace sz:=Za (Qi sz.out u.size);clear a0 a1 a2 a3 b0 b1 b2 b3 I u;obtain⟨a0,a1,a2,a3,-⟩:=q0.out.four;obtain⟨b0,b1,b2,b3,-⟩:=q1.out.four;go_wp2_with fail;refine Z0 [12] (λW'=>W'.cell? ⟨w.heap.size,0,none⟩=some (.bool na)/\W'.cell? ⟨w.heap.size,1,none⟩=some (.slice A n c)/\W'.cell? ⟨w.heap.size,2,none⟩=some (.bool nb)/\W'.cell? ⟨w.heap.size,3,none⟩=some (.slice B m d)/\W'.cell? ⟨w.heap.size+1,0,none⟩=some (.bool na')/\W'.cell? ⟨w.heap.size+1,1,none⟩=some (.slice A' n' c')/\W'.cell? ⟨w.heap.size+1,2,none⟩=some (.bool nb')/\W'.cell? ⟨w.heap.size+1,3,none⟩=some (.slice B' m' d')) hmx ⟨a0,a1,a2,a3,b0,b1,b2,b3⟩ (λ_=>?_);refine Zje 6 [0,1,3,4,5,6] rfl (by kernel_rfl) ⟨a0,a1,a2,a3,b0,b1,b2,b3⟩ ?_
 iterate 6 (refine tk1 (v:=?_) rfl (Qp ⟨by kernel_rfl,?_⟩) ?_;rotate_left;(· intro W2 hSw;(try dsimp only at hSw);go_simp;try with_reducible rfl);try simp only[Qh,Zgy,Zge,Zgs,putG_a,putG_s,putG_z])
 refine tk0 ?_;refine Ze (i:=2) rfl (by kernel_rfl) (λK hK=>?_);go_simp;refine(Zhh na nb na' nb' A B A' B' n c m d n' c' m' d' a b wz.drew hA.out hD.out hs.out).mono ?_;rintro e w1 ⟨f,np,P,k,q,rfl,hP⟩;replace f:=Zr f;replace hP:=Za hP;clear hs;replace q0:=Za (Zd f q0.out);replace q1:=Za (Zd f q1.out);replace q2:=Za (Zd f q2.out);replace q3:=Za (Zd f q3.out);replace hA:=Za (hA.out.below f);replace hD:=Za (hD.out.below f);replace hB:=Za (hB.out.trans (f.mono sz.out));replace sz:=Za (Qi sz.out f.size);clear a0 a1 a2 a3 b0 b1 b2 b3;obtain⟨a0,a1,a2,a3,-⟩:=q0.out.four;obtain⟨b0,b1,b2,b3,-⟩:=q1.out.four;clear f;refine hK.out _ _ (λ_=>⟨a0,a1,a2,a3,b0,b1,b2,b3⟩) ?_;clear hK K
 try simp only[Qh,Zgy,Zge,Zgs]
 refine Ze (i:=7) rfl (by kernel_rfl) (λK hK=>?_);go_simp;refine(Zj5 nb na' B A' m d n' c' a.den b.num w1 hA.out.2 hD.out.1).mono ?_;rintro e w3 ⟨o,O,P',k',q',code,rfl,hR⟩;have y:=Za (hR.small ht.out);have T:=hR.code0 ht.out;subst T;clear ht hR;replace hP:=Za (hP.out.below o);replace q0:=Za (Zd o q0.out);replace q1:=Za (Zd o q1.out);replace q2:=Za (Zd o q2.out);replace q3:=Za (Zd o q3.out);replace hA:=Za (hA.out.below o);replace hD:=Za (hD.out.below o);replace hB:=Za (hB.out.trans (o.mono sz.out));replace sz:=Za (Qi sz.out o.size);clear a0 a1 a2 a3 b0 b1 b2 b3;obtain⟨a0,a1,a2,a3,-⟩:=q0.out.four;obtain⟨b0,b1,b2,b3,-⟩:=q1.out.four;clear o;refine hK.out _ _ (λ_=>⟨a0,a1,a2,a3,b0,b1,b2,b3⟩) ?_;clear hK K
 try simp only[Qh,Zgy,Zge,Zgs]
 refine Zje 2 [8,9] rfl (by kernel_rfl) ⟨a0,a1,a2,a3,b0,b1,b2,b3⟩ ?_
 iterate 2 (refine tk1 (v:=?_) rfl (Qp ⟨by kernel_rfl,?_⟩) ?_;rotate_left;(· intro W2 hSw;(try dsimp only at hSw);go_simp;try with_reducible rfl);try simp only[Qh,Zgy,Zge,Zgs,putG_a,putG_s,putG_z])
 refine tk0 ?_;refine Ze (i:=10) rfl (by kernel_rfl) (λK hK=>?_);go_simp;refine(Zer O P' k' q' w3).mono ?_;rintro e w4 ⟨rfl,h⟩;replace hP:=Za (hP.out.below h);replace y:=Za (y.out.below h);replace q0:=Za (Zd h q0.out);replace q1:=Za (Zd h q1.out);replace q2:=Za (Zd h q2.out);replace q3:=Za (Zd h q3.out);replace hA:=Za (hA.out.below h);replace hD:=Za (hD.out.below h);replace hB:=Za (hB.out.trans (h.mono sz.out));replace sz:=Za (Qi sz.out h.size);clear a0 a1 a2 a3 b0 b1 b2 b3;obtain⟨a0,a1,a2,a3,-⟩:=q0.out.four;obtain⟨b0,b1,b2,b3,-⟩:=q1.out.four;clear h;obtain⟨x0,x1,f0,f1⟩:=q2.out.two;refine hK.out _ _ (λ_=>⟨a0,a1,a2,a3,b0,b1,b2,b3⟩) ?_;clear hK K
 try simp only[Qh,Zgy,Zge,Zgs]
 refine Ze (i:=11) rfl (by kernel_rfl) (λK hK=>?_);go_simp;obtain⟨W5,U,V,J,kW,kB,s5⟩:=Zbe np P k q hB.out (by omega) q2.out;rw[U];clear U x0 x1 f0 f1 a0 a1 a2 a3 b0 b1 b2 b3 hA hD;replace q0:=kB _ _ _ (by omega) q0.out;replace q1:=kB _ _ _ (by omega) q1.out;obtain⟨a0,a1,a2,a3,-⟩:=q0.four;obtain⟨b0,b1,b2,b3,-⟩:=q1.four;replace q3:=Za (kB _ _ _ (by omega) q3.out);replace hP:=Za (kW _ _ _ _ _ hP.out);replace y:=Za (kW _ _ _ _ _ y.out);clear kW kB q2 hB q0 q1;obtain⟨y0,y1,g0,g1⟩:=q3.out.two;refine hK.out _ _ (λ_=>⟨a0,a1,a2,a3,b0,b1,b2,b3⟩) ?_;clear hK K
 try simp only[Qh,Zgy,Zge,Zgs]
 refine Zm (i:=12) rfl (by kernel_rfl) (by kernel_rfl) (λK hK=>?_);go_simp;obtain⟨W6,Y,a5,a6,kW,kB,s6⟩:=Zbe O P' k' q' V (by omega) q3.out;rw[Y];clear Y y0 y1 g0 g1 a0 a1 a2 a3 b0 b1 b2 b3;replace J:=kB _ _ _ (by omega) J;replace hP:=Za (kW _ _ _ _ _ hP.out);replace y:=Za (kW _ _ _ _ _ y.out);clear kW kB q3 V;refine hK.out _ _ ?_;clear hK K
 try simp only[Qh,Zgy,Zge,Zgs]
 refine Zj (by kernel_rfl) ?_ _;refine QH ?_;obtain⟨r0,r1,-⟩:=J.two;obtain⟨r2,r3,-⟩:=a6.two;go_wp2_with fail;refine bodyPost_ret (v:=.tuple #[.agg #[.bool np,.slice P k q],.agg #[.bool O,.slice P' k' q']]) (by simp[results,Tryz.results155,go_sem,r0,r1,r2,r3]) rfl ?_;exact⟨a5,_,_,_,_,_,_,_,_,rfl,hP.out,y.out⟩
theorem Zqn(na nb na' nb':Bool)(A B A' B':Option Addr)(n c m d n' c' m' d':Nat)(a b:Rat)(w:World)(ha:Fr w na A n c nb B m d a)(hb:Fr w na' A' n' c' nb' B' m' d' b)(sa:Sm a)(sb:Sm b)(h0:b≠0) :
    Calls Tryz.prog 111 #[.agg #[.bool na,.slice A n c,.bool nb,.slice B m d],.agg #[.bool na',.slice A' n' c',.bool nb',.slice B' m' d']] w (Zgz w (a/b)):=by
 obtain⟨W0,o,f,⟨q0,q1,q2⟩,s0⟩:=Zcu w 41 #[.bool na,.slice A n c,.bool nb,.slice B m d] 41 #[.bool na',.slice A' n' c',.bool nb',.slice B' m' d'] 41 #[.bool false,.slice none 0 0,.bool false,.slice none 0 0];have hA:=Za (ha.below f);have hD:=Za (hb.below f);have hF:=λ(W:World) (h1:Fr W na A n c nb B m d a) (h2:Fr W na' A' n' c' nb' B' m' d' b)=>Div1_ok na nb na' nb' A B A' B' n c m d n' c' m' d' a b W h1 h2 (Zcd sa.1 sb.dn) (Zcd sa.dn sb.1) h0;have hG:=Za (Zw9 155 na nb na' nb' A B A' B' n c m d n' c' m' d' a b _ _ W0 hA.out hD.out (Zir a b h0) Zr9 hF);rw[Zhj a b h0]at hG;clear hF ha hb sa sb hA hD;obtain⟨a0,a1,a2,a3,-⟩:=q0.four;obtain⟨b0,b1,b2,b3,-⟩:=q1.four;replace q2:=Za q2;clear q0 q1;go_enter Tryz.func111,Tryz.ntmps111;go_wp2_with fail;refine hG.out.mono ?_;rintro e w1 ⟨h,nx,Ax,kx,cx,ny,Ay,ky,cy,rfl,hX⟩;have C:Below w.heap.size w w1:=f.trans (h.mono f.size);have s1:W0.heap.size<=w1.heap.size:=h.size;replace q2:=Za (Zd h q2.out);replace hX:=Za hX;clear h a0 a1 a2 a3 b0 b1 b2 b3 f hG o;obtain⟨T,I,a4,Y,J,O,U,V⟩:=q2.out.four;go_wp2_with fail;obtain⟨W5,u,y,q2,kW,-,s5⟩:=Zaa nx Ax kx cx ny Ay ky cy C (by omega) q2.out;rw[u];obtain⟨r0,r1,r2,r3,-⟩:=q2.four;refine bodyPost_ret (v:=.tuple #[.agg #[.bool nx,.slice Ax kx cx,.bool ny,.slice Ay ky cy],.int .i64 0]) (by simp[results,Tryz.results111,go_sem,r0,r1,r2,r3]) rfl ?_;exact⟨y,_,_,_,_,_,_,_,_,rfl,kW _ _ _ _ _ hX.out.1,kW _ _ _ _ _ hX.out.2⟩
theorem Zri(k:Nat):Qa k (Value.slice none 0 0)=Zak (Qa k Zaz):=by
 rw[Zb9,List.map_replicate];rfl
theorem Zlk(k:Nat):madeCells (Value.agg #[.bool false,.slice none 0 0,.bool false,.slice none 0 0]).cells (k*4)=Zz (Qa k Zau):=by
 apply Array.toList_inj.1;show (madeCells #[.bool false,.slice none 0 0,.bool false,.slice none 0 0] (k*4)).toList=Zp (Qa k Zau);apply Qu;intro i;by_cases h:i<k*4
 ·have he:(Qa k Zau)[i/4]?=some Zau:=by rw[Qx,if_pos (by omega)]
  have hc:=Zfh he;have h4:i%4=0 \/ i%4=1 \/ i%4=2 \/ i%4=3:=by omega
  have hm:(madeCells #[.bool false,.slice none 0 0,.bool false,.slice none 0 0] (k*4)).toList[i]?=some ((#[.bool false,.slice none 0 0,.bool false,.slice none 0 0]:Array Value)[i%4]?.getD default):=by
   unfold madeCells;simp[h]
  rw[hm];rcases h4 with h2|h2|h2|h2;rw[show i/4*4=i by omega]at hc;rw[hc.1,h2];rfl;rw[show i/4*4+1=i by omega]at hc;rw[hc.2.1,h2];rfl;rw[show i/4*4+2=i by omega]at hc;rw[hc.2.2.1,h2];rfl;rw[show i/4*4+3=i by omega]at hc;rw[hc.2.2.2,h2];rfl
 ·have a1:(Zp (Qa k Zau))[i]?=none:=QC (by rw[Zq];simp;omega)
  have a2:(madeCells #[.bool false,.slice none 0 0,.bool false,.slice none 0 0] (k*4)).toList[i]?=none:=QC (by unfold madeCells;simp;omega);rw[a1,a2]
theorem Zsz{P:Program}(t e:TypeId){i:TypeInfo}(ht:P.underlying t=some (.slice e))(hi:P.info? e=some i)(hz:i.zero=some (.agg #[.bool false,.slice none 0 0,.bool false,.slice none 0 0]))(hs:i.size=4)(hb:i.bytes=64)
    (x:Int) (n:Nat) (hx:x=n) (hn:n<=1000000000000) (W:World) :
    (Instr.makeSlice t (.int .i64 x) (.int .i64 x)).run P W=.ok (.slice (some ⟨W.heap.size,0,none⟩) n n) (W.alloc (.cells (Zz (Qa n Zau)) e)):=by
 subst hx;have hr:=run_make (P:=P) W t e i _ ht hi hz .i64 .i64 n n (by omega) (by omega) (by rw[hb];omega) (by omega);simp only[QI]at hr;rw[hr,hs,Zlk]
theorem Zpc{P:Program}(t e:TypeId){i:TypeInfo}(ht:P.underlying t=some (.slice e))(hi:P.info? e=some i)(hz:i.zero=some (.slice none 0 0))(hs:i.size=1)(hb:i.bytes=24)
    (x:Int) (n:Nat) (hx:x=n) (hn:n<=1000000000000) (W:World) :
    (Instr.makeSlice t (.int .i64 x) (.int .i64 x)).run P W=.ok (.slice (some ⟨W.heap.size,0,none⟩) n n) (W.alloc (.cells (Zx (Qa n Zaz)) e)):=by
 subst hx;have hr:=run_make (P:=P) W t e i _ ht hi hz .i64 .i64 n n (by omega) (by omega) (by rw[hb];omega) (by omega);simp only[QI]at hr;rw[hr,hs,Nat.mul_one]
 have:madeCells (Value.slice none 0 0).cells n=Zx (Qa n Zaz):=by
  apply Array.toList_inj.1;show (madeCells #[.slice none 0 0] n).toList=Zak (Qa n Zaz);rw[<- Zri];apply Qu;intro j;unfold madeCells;by_cases h:j<n;simp[h,Nat.mod_one];simp[h]
 rw[this]
section
variable{P:Program}(w:World)
theorem Znl(dT sT ty elem:TypeId)(i:TypeInfo)(g o dLen dCap:Nat)(a:Addr)(sLen sCap:Nat)(cur:Array Value)(t:TypeId)(cs:List Value)
    (hu:P.underlying dT=some (.slice elem)) (hi:P.info? elem=some i) (hg:w.heap[g]?=some (.cells cur t (0,0))) (hn:cs.length=QN sLen dLen*i.size)
    (hsrc:∀ j v,cs[j]?=some v->w.cell? (a.add j)=some v) (hfit:o+cs.length<=cur.size) (h1:∀ v ∈ cs,v.oneCell'=true) :
    (Builtin.copy_ #[dT,sT] ty #[.slice (some ⟨g,o,none⟩) dLen dCap,.slice (some a) sLen sCap]).run P w =
     .ok (goInt (QN sLen dLen)) (w.setRow g (cur.toList.take o++cs++cur.toList.drop (o+cs.length)).toArray):=by
 have hl:=run_loadCells_list (P:=P) w a cs hsrc;have e:=run_storeCells_at P g o t cs 0 cur w hg (by simpa using hfit) h1;simp[Builtin.copy_,run_underlying hu,Builtin.lenOf,Builtin.firstCells,sizeOf,typeInfo,hi,<- hn,hl,e]
theorem Zie(t ty e:TypeId)(i:TypeInfo)(hu:P.underlying t=some (.slice e))(hi:P.info? e=some i)(hs:i.size=4){tF:TypeId}{g k d dc:Nat}{es:List FE}(hb:Blk w g tF (Zz es))
    (B:Nat) (A:Option Addr) (m c:Nat) (fs:List FE) (hr:Reads w B 4 A m (Zp fs)) (hm:fs.length=m) (hm0:0<m) (hd:m<=d) (hk:k+m<=es.length) :
    (Builtin.copy_ #[t,t] ty #[.slice (some ⟨g,k*4,none⟩) d dc,.slice A m c]).run P w=.ok (goInt m) (w.setRow g (Zz (es.take k++fs++es.drop (k+m)))):=by
 obtain⟨ad,rfl,_,hc⟩:=hr.2 hm0;have hl:(Zp fs).length=m*4:=by rw[Zq,hm]
 have:=Znl (P:=P) w t t ty e i g (k*4) d dc ad m c _ tF (Zp fs) hu hi hb (by rw[hl,hs,show QN m d=m from Qq hd]) hc
  (by rw[hl];show k*4+m*4<=(Zz es).size;unfold Zz;simp only[QG];rw[Zq];omega) (Zix fs)
 rw[this,show QN m d=m from Qq hd];congr 2;unfold Zz
 have e1:Zp (es.take k)=(Zp es).take (k*4):=by
  have h1:Zp es=Zp (es.take k)++Zp (es.drop k):=by rw[<- Zaj,QD]
  have h2:(Zp (es.take k)).length=k*4:=by rw[Zq,Qv,Qq (by omega)]
  rw[h1,<- h2,List.take_left]
 have e2:Zp (es.drop (k+m))=(Zp es).drop (k*4+m*4):=by
  have h1:Zp es=Zp (es.take (k+m))++Zp (es.drop (k+m)):=by rw[<- Zaj,QD]
  have h2:(Zp (es.take (k+m))).length=k*4+m*4:=by rw[Zq,Qv,Qq (by omega)];omega
  rw[h1,<- h2,List.drop_left]
 rw[hl,Zaj,Zaj,e1,e2]
end
theorem Kept.setRow{G:Nat->Prop}{w0 w:World}(h:Kept G w0 w){g:Nat}(hg:G g \/ w0.heap.size<=g)(cs:Array Value):Kept G w0 (w.setRow g cs):=
 ⟨h.os,h.tape,h.output,by simp[World.setRow];exact h.size,λk hk hG=>(setRow_other w g k cs (by rcases hg with hg|hg;exact λe=>hG (e▸hg);omega)).trans (h.block k hk hG)⟩
theorem Zm9{w:World}{g:Nat}{t:TypeId}{cs cs':Array Value}(h:Blk w g t cs):Blk (w.setRow g cs') g t cs':=setRow_heap w g _ _ t _ h
theorem Zms{w:World}{g k:Nat}{t:TypeId}{cs cs':Array Value}(h:Blk w k t cs)(hne:k≠g):Blk (w.setRow g cs') k t cs:=(setRow_other w g k _ hne).trans h
theorem FL.readsK{w:World}{A:Option Addr}{n c:Nat}{qs:List Rat}(h:FL w A n c qs){go:Nat}{t:TypeId}{rs:List RS}(hb:Blk w go t (Zx rs)) :
    ∃ fs:List FE,fs.length=n/\fs.map FE.q=qs/\∀ w',Kept (λk=>k=go) w w'->Reads w' w'.heap.size 4 A n (Zp fs)/\∀ e ∈ fs,e.in_ w':=by
 obtain⟨es,h1,h2,h3,h4,h5,h6⟩:=h;refine⟨es,h1,h5,λw' hk=>?_⟩;have hG:∀ k,k=go->∃ t cs,Blk w k t cs/\NoLimb cs:=λk hk=>⟨t,Zx rs,by rw[hk];exact hb,Zas _⟩;refine⟨⟨by rw[Zq,h1],λhn=>?_⟩,λe he=>⟨hk.wd (h4 e he).1 hG,hk.wd (h4 e he).2 hG⟩⟩;obtain⟨g,o,e1,hc⟩:=h6 hn
 have y:g≠go:=λe=>by
  have h0:=(hc 0 es[0] (Qd (by omega))).1;rw[e,hb.cell]at h0;unfold Zx at h0;rw[Zb9]at h0;simp only[List.getElem?_toArray,Qk]at h0;cases hx:rs[o+0*4]? with
  | none=>rw[hx]at h0;cases h0
  | some r=>rw[hx]at h0;cases h0
 have f:∀ (i:Nat) (v:Value),w.cell? ⟨g,i,none⟩=some v->w'.cell? ⟨g,i,none⟩=some v:=λi v hv=>by
  rw[<- hv];exact World.cell?_of_block (hk.block g (Zo hv) y)
 refine⟨⟨g,o,none⟩,e1,?_,λj u hu=>?_⟩
 ·have:=(hc 0 es[0] (Qd (by omega))).1
  exact Qt (Zo this) hk.size
 ·rw[Zh]
  have hj:j<es.length*4:=by
   have:=(List.getElem?_eq_some_iff.1 hu).1
   rwa [Zq]at this
  have he:=Qd (show j/4<es.length by omega);have hg:=Zfh he;have hm:=hc (j/4) _ he;have h4:j%4=0 \/ j%4=1 \/ j%4=2 \/ j%4=3:=by omega
  rcases h4 with h2|h2|h2|h2;rw[show j/4*4=j by omega]at hg hm;rw[hg.1]at hu;cases hu;exact f _ _ hm.1;rw[show j/4*4+1=j by omega]at hg hm;rw[hg.2.1]at hu;cases hu;exact f _ _ hm.2.1;rw[show j/4*4+2=j by omega]at hg hm;rw[hg.2.2.1]at hu;cases hu;exact f _ _ hm.2.2.1;rw[show j/4*4+3=j by omega]at hg hm;rw[hg.2.2.2]at hu;cases hu;exact f _ _ hm.2.2.2
theorem MatB.mfl{tS tF:TypeId}{w:World}{go n c:Nat}{L:List RF}(h:MatB tS tF w go L)(hl:L.length=n)(hc:n<=c)(hm:c<=maxLen):MFL w (some ⟨go,0,none⟩) n c (L.map RF.q):=by
 refine⟨by rw[Qj,hl],hc,hm,λ_=>⟨go,0,rfl,λk q hq=>?_⟩⟩;rw[Qk]at hq;obtain⟨r,hr,rfl⟩:=Option.map_eq_some_iff.1 hq;have h1:=(h.cell hr).1;obtain⟨h2,h3,h4⟩:=h.row hr;exact⟨_,_,_,by rw[Nat.zero_add];exact h1,h2.fl h3 h4⟩
theorem Zup(F:FuncId)(cap:Value)(A:Option Addr)(n c m s:Nat)(Q:List (List Rat))(S:Nat->List Rat)(w:World)(h:MFL w A n c Q)(hn9:n<=900)(hm:∀ i,i<n->(Q[i]?.getD []).length=m)(hm0:0<m)(hm9:m<=900)(hs0:0<s)(hs9:s<=900)(hS:∀ i,i<n->(S i).length=s)
    (hcf:∀ (x:Value) (W:World),(callFunc F #[x,cap]).run Tryz.prog W=.ok (.enter F #[x,cap]) W)
    (hF:∀ (W:World) (i:Nat),Below w.heap.size w W->i<n->Calls Tryz.prog F #[.int .i64 i,cap] W λe W'=>∃ A c,e=.returned (.slice A s c)/\Below W.heap.size W W'/\FL W' A s c (S i)) :
    Calls Tryz.prog 83 #[.slice A n c,.func (.func F) #[] #[cap]] w λe w'=>∃ go L,e=.returned (.slice (some ⟨go,0,none⟩) n n)/\Below w.heap.size w w'/\w.heap.size<=go/\L.length=n/\MatB 35 41 w' go L/\L.map RF.q=(QL n).map λi=>Q[i]?.getD []++S i:=by
 obtain⟨iF,hi,f0,b6,e1⟩:=info_parts Zdg;obtain⟨iS,ki,f3,e7,e4⟩:=info_parts Zeu;have hl:=Za h.1;have f5:=h.2.1;have e2:=h.2.2.1;unfold maxLen at e2;have f6:(35:TypeId)≠41:=by decide
 replace hm:=Za hm;replace h:=Za h;replace hS:=Za hS;replace hF:=Za hF;obtain⟨W0,T⟩:∃ X,w.alloc (.cells (Zx (Qa n Zaz)) 35)=X:=⟨_,rfl⟩;obtain⟨go,C⟩:∃ g,w.heap.size=g:=⟨_,rfl⟩;have q0:Hid (Blk W0 go 35 (Zx (Qa n Zaz))):=Za (by rw[<- T,<- C];exact QB _ _ _);have e0:Hid (Below w.heap.size w W0):=Za (by rw[<- T];exact(Qb _ _).alloc (Qc _) _);have s0:Hid (W0.heap.size=go+1):=Za (by rw[<- T,<- C];simp);have c8:=Zpc (P:=Tryz.prog) 25 35 Tryz.underlying25 ki f3 e7 e4 (n:Int) n rfl (by omega);go_enter Tryz.func83,Tryz.ntmps83;go_wp2_with fail;(try rw[T]);(try rw[C]);replace C:=Za C;clear T c8
 go_loopg [14] n (λk iv wr=>∃ (i:Nat) (L:List RF),i+k=n/\iv=.int .i64 i/\Hid (L.length=i)/\Blk wr go 35 (Zx (L.map RF.rs++Qa (n-i) Zaz))/\Hid (∀ r ∈ L,(FOwn 41 wr r.g r.q/\r.q.length<=r.c/\r.c<=maxLen)/\W0.heap.size<=r.g)/\Hid ((L.map RF.g).Nodup)/\Hid (L.map RF.q=(QL i).map λi=>Q[i]?.getD []++S i)/\Kept (λk=>k=go) W0 wr)
 case atStart=>exact⟨0,[],by omega,rfl,Za rfl,q0.out,Za (λr hr=>(by cases hr)),Za List.nodup_nil,Za rfl,Kept.refl _ _⟩
 case round =>
  obtain⟨i,L,f4,rfl,u,y,f,d6,c6,hK⟩:=hrel;have c2:Below w.heap.size w wr:=e0.out.trans (hK.to_below (λk hk=>by rw[hk,C.out];exact Qc _) e0.out.size);cases gk with
  | zero =>
   obtain rfl:i=n:=by omega
   have t1:decide ((i:Int)<(i:Int))=false:=by simp
   replace y:=Za y;go_wp2_with fail;go_ret;refine⟨go,L,rfl,c2,by rw[C.out];exact Qc _,u.out,⟨⟨_,y.out⟩,λr hr=>(f.out r hr).1,?_⟩,c6.out⟩;refine List.nodup_cons.2 ⟨λhmm=>?_,d6.out⟩;obtain⟨r,hr,e⟩:=List.mem_map.1 hmm;have:=(f.out r hr).2;have:=s0.out;omega
  | succ j =>
   obtain rfl:j=n-(i+1):=by omega
   have Y:i<n:=by omega
   have t1:decide ((i:Int)<(n:Int))=true:=decide_eq_true (by omega);have bi:(i:Int)<(n:Int):=by omega
   obtain⟨ga,oa,A1,n1,c1,rfl,k0,a6⟩:=(h.out.below c2).at_ Y;have e6:n1=m:=by rw[<- a6.len];exact hm.out i Y
   subst e6;replace a6:=Za a6;replace y:=Za y;go_wp2_with fail;refine(hF.out wr i c2 Y).mono ?_;rintro e w1 ⟨As,cs,rfl,V,c9⟩;have o:=Zd V y.out;obtain⟨fs,a2,d5,b4⟩:=(a6.out.below V).readsK o;obtain⟨gs,d8,d3,b5⟩:=c9.readsK o;obtain⟨gN,e5⟩:∃ g,w1.heap.size=g:=⟨_,rfl⟩;obtain⟨W2,d7⟩:∃ X,w1.alloc (.cells (Zz (Qa (n1+s) Zau)) 41)=X:=⟨_,rfl⟩;have b8:Below w1.heap.size w1 W2:=by rw[<- d7];exact(Qb _ _).alloc (Qc _) _
   have d4:Blk W2 gN 41 (Zz (Qa (n1+s) Zau)):=by rw[<- d7,<- e5];exact QB _ _ _
   have I:=Zd b8 o;have d0:=o.lt;have e9:go<gN:=by omega
   have x0:=I.cell i;have x1:=I.frozen i;rw[show (Zx (L.map RF.rs++Qa (n-i) Zaz))[i]?=some (.slice none 0 0) from Zbv (e:=Zaz) (by rw[Qf (by rw[Qj,u.out];exact Qc _),Qj,u.out,Qn,Qx,if_pos (by omega)])]at x0;have e8:(Q[i]?.getD []++S i).length=n1+s:=by rw[Qm,hm.out i Y,hS.out i Y]
   obtain⟨W3,b9⟩:∃ X,W2.setCell ⟨go,i,none⟩ (.slice (some ⟨gN,0,none⟩) (n1+s) (n1+s))=X:=⟨_,rfl⟩
   have a4:(L.map RF.rs++Qa (n-i) Zaz).set i ⟨some ⟨gN,0,none⟩,n1+s,n1+s⟩=(L ++ [RF.mk gN (n1+s) (Q[i]?.getD []++S i)]).map RF.rs++Qa (n-(i+1)) Zaz:=by
    rw[List.set_append_right _ _ (by rw[Qj,u.out];exact Qc _),Qj,u.out,Qn,show n-i=n-(i+1)+1 by omega,List.replicate_succ,List.set_cons_zero,Ql,List.append_assoc];simp only[List.map_cons,List.map_nil,RF.rs,e8];rfl
   have a3:Blk W3 go 35 (Zx ((L ++ [RF.mk gN (n1+s) (Q[i]?.getD []++S i)]).map RF.rs++Qa (n-(i+1)) Zaz)):=by
    have:=I.set_ i (.slice (some ⟨gN,0,none⟩) (n1+s) (n1+s));rw[Zch ⟨some ⟨gN,0,none⟩,n1+s,n1+s⟩,b9,a4]at this;exact this
   have O:Blk W3 gN 41 (Zz (Qa (n1+s) Zau)):=by rw[<- b9];exact d4.far (by show gN≠go;omega) _
   have b7:Kept (λk=>k=go) w1 W3:=by
    rw[<- b9];exact Kept.set_ (G:=λk=>k=go) (Kept.of_below b8) (p:=⟨go,i,none⟩) (Qp rfl) _
   have J:∀ W,Blk W go 35 (Zx ((L ++ [RF.mk gN (n1+s) (Q[i]?.getD []++S i)]).map RF.rs++Qa (n-(i+1)) Zaz))->W.cell? ⟨go,i,none⟩=some (.slice (some ⟨gN,0,none⟩) (n1+s) (n1+s)):=λW hW=>by
    rw[hW.cell];refine Zbv (e:=⟨some ⟨gN,0,none⟩,n1+s,n1+s⟩) ?_;rw[<- a4,List.getElem?_set_self (by simp[u.out];omega)]
   have x3:=J W3 a3;have b1:=λty=>Zie (P:=Tryz.prog) W3 35 ty 41 iF Tryz.underlying35 hi b6 O W3.heap.size A1 n1 c1 fs (b4 W3 b7).1 a2 hm0 (d:=n1+s) (dc:=n1+s) (k:=0) (by omega) (by simp);rw[Nat.zero_mul,List.take_zero,Qy,Nat.zero_add,List.drop_replicate,Nat.add_sub_cancel_left]at b1;obtain⟨W4,a9⟩:∃ X,W3.setRow gN (Zz (fs++Qa s Zau))=X:=⟨_,rfl⟩;rw[a9]at b1;have a0:Blk W4 gN 41 (Zz (fs++Qa s Zau)):=by rw[<- a9];exact Zm9 O
   have a5:=show Blk W4 go 35 _ by rw[<- a9];exact Zms a3 (by omega)
   have c0:Kept (λk=>k=go) w1 W4:=by rw[<- a9];exact b7.setRow (.inr (by omega)) _
   have x4:=J W4 a5;have b3:=λty=>Zie (P:=Tryz.prog) W4 35 ty 41 iF Tryz.underlying35 hi b6 a0 W4.heap.size As s cs gs (b5 W4 c0).1 d8 hs0 (d:=s) (dc:=s) (k:=n1) (Qc _) (by simp[a2]);rw[List.take_left' a2,show n1+s=(fs++Qa s Zau).length by simp[a2],List.drop_length,QM]at b3;obtain⟨W5,a8⟩:∃ X,W4.setRow gN (Zz (fs++gs))=X:=⟨_,rfl⟩;rw[a8]at b3;have b2:Blk W5 gN 41 (Zz (fs++gs)):=by rw[<- a8];exact Zm9 a0
   have a1:=show Blk W5 go 35 _ by rw[<- a8];exact Zms a5 (by omega)
   have b0:Kept (λk=>k=go) w1 W5:=by rw[<- a8];exact c0.setRow (.inr (by omega)) _
   have c8:=Zsz (P:=Tryz.prog) 35 41 Tryz.underlying35 hi f0 b6 e1 ((n1:Int)+(s:Int)) (n1+s) (by omega) (by omega);have bx:(i:Int)<(n:Int):=bi
   have c4:FOwn 41 W5 gN (Q[i]?.getD []++S i):=⟨fs++gs,[],by rw[QM];exact b2,λe he=>by
    rcases List.mem_append.1 he with he|he;exact(b4 W5 b0).2 e he
    ·exact(b5 W5 b0).2 e he,by rw[Ql,d5,d3]⟩
   have d9:∀ k,k=go->∃ t cs,Blk wr k t cs/\NoLimb cs:=λk hk=>⟨_,_,hk▸y.out,Zas _⟩;have U:Kept (λk=>k=go) wr W5:=(Kept.of_below V).trans (b0.mono (λk _ h=>h))
   have a7:Hid (∀ r ∈ L ++ [RF.mk gN (n1+s) (Q[i]?.getD []++S i)],(FOwn 41 W5 r.g r.q/\r.q.length<=r.c/\r.c<=maxLen)/\W0.heap.size<=r.g):=Za (λr hr=>by
    rcases List.mem_append.1 hr with hr|hr
    ·obtain⟨⟨r1,r2⟩,r3⟩:=f.out r hr
     have:=s0.out;exact⟨⟨r1.keptG U (by omega) d9,r2⟩,r3⟩
    ·rw[QF]at hr
     subst hr;have h7:=hK.size;have h8:=V.size;exact⟨⟨c4,by show (Q[i]?.getD []++S i).length<=n1+s;omega,by show n1+s<=maxLen;unfold maxLen;omega⟩,by show W0.heap.size<=gN;omega⟩)
   have c7:Hid (((L ++ [RF.mk gN (n1+s) (Q[i]?.getD []++S i)]).map RF.g).Nodup):=Za (by
    rw[Ql,List.nodup_append];refine⟨d6.out,by simp,λa ha b hb=>?_⟩;obtain⟨r,hr,rfl⟩:=List.mem_map.1 ha;simp only[List.map_cons,List.map_nil,QF]at hb;have h6:=(f.out r hr).1.1.lt;have h7:=V.size;omega)
   have c5:Hid ((L ++ [RF.mk gN (n1+s) (Q[i]?.getD []++S i)]).map RF.q=(QL (i+1)).map λi=>Q[i]?.getD []++S i):=Za (by
    rw[Ql,c6.out,List.range_succ,Ql];rfl)
   have e3:Hid (Kept (λk=>k=go) W0 W5):=Za (hK.trans U);have c3:Hid ((L ++ [RF.mk gN (n1+s) (Q[i]?.getD []++S i)]).length=i+1):=Za (by rw[Qm,u.out];rfl);replace a1:=Za a1;clear b4 b5 a2 d5 d8 d3 o b8 d4 I a4 a3 O b7 J a0 a5 c0 b2 b0 c4 d9 U c9 d0;go_wp2_with fail
   go_roundg (n-(i+1))
   case measure=>omega
   case rel=>exact⟨i+1,L ++ [RF.mk gN (n1+s) (Q[i]?.getD []++S i)],by omega,by go_num,c3,a1.out,a7,c7,c5,e3.out⟩
theorem Zsf{α:Type}(l:List α)(i:Nat):Zy l i i=l:=by
 apply Qu;intro j;unfold Zy;cases h:l[i]? with
 | none=>rfl
 | some x =>
  have hi:=(List.getElem?_eq_some_iff.1 h).1;simp only;rw[QJ,QJ,List.length_set];by_cases hij:i=j;subst hij;rw[if_pos rfl,if_pos hi,h];rw[if_neg hij,if_neg hij]
theorem okR_bd{C D m f c r:Nat}{R:List (List Rat)}(h:okR C D m f c r R):BdR C D m R:=by
 cases f with
 | zero=>exact h
 | succ f=>exact h.1
theorem BdR.smN{m:Nat}{R:List (List Rat)}(h:BdR (pw 200) (pw 200) m R)(i j:Nat):SmN 200 200 (Zl R i j):=⟨(h.2 i j).1,(h.2 i j).2⟩
theorem Zma{f c r:Nat}{R:List (List Rat)}{ng:Bool}(h:r=R.length):Z7 f c r R ng=(R,r,ng):=by
 cases f with
 | zero=>rfl
 | succ f=>unfold Z7;rw[if_pos h]
theorem Zlw{f c r q:Nat}{R:List (List Rat)}{ng:Bool}(h:r≠R.length)(hq:Za0 (λi=>Zl R i c == 0) R.length R.length r=q)(hn:q=R.length):Z7 (f+1) c r R ng=Z7 f (c+1) r R ng:=by
 show (if r=R.length then _ else _)=_;rw[if_neg h,hq,if_pos hn]
theorem Zmw{f c r q:Nat}{R:List (List Rat)}{ng:Bool}(h:r≠R.length)(hq:Za0 (λi=>Zl R i c == 0) R.length R.length r=q)(hn:q≠R.length):Z7 (f+1) c r R ng=Z7 f (c+1) (r+1) (Za3 (Zy R q r) r c) (ng != decide (q≠r)):=by
 show (if r=R.length then _ else _)=_;rw[if_neg h,hq,if_neg hn]
theorem Zpt{C D m f c r q:Nat}{R:List (List Rat)}(h:okR C D m (f+1) c r R)(h0:r≠R.length)(hq:Za0 (λi=>Zl R i c == 0) R.length R.length r=q)(hn:q=R.length):okR C D m f (c+1) r R:=by
 rcases h.2 with h1|h1;exact absurd h1 h0;exact h1.1 (by rw[hq];exact hn)
theorem Zq3{C D m f c r q:Nat}{R:List (List Rat)}(h:okR C D m (f+1) c r R)(h0:r≠R.length)(hq:Za0 (λi=>Zl R i c == 0) R.length R.length r=q)(hn:q≠R.length):okR C D m f (c+1) (r+1) (Za3 (Zy R q r) r c):=by
 rcases h.2 with h1|h1;exact absurd h1 h0
 ·have:=h1.2 (by rw[hq];exact hn)
  rw[hq]at this;exact this
theorem Zwh(k r:Nat):swI k r r=k:=by unfold swI;split;assumption;rw[if_pos rfl]
theorem Zkp(go n cap:Nat)(L:List RF)(m cols:Nat)(w:World)(hM:MatB 35 41 w go L)(hn:L.length=n)(hn0:0<n)(hn9:n<=900)(hcap:n<=cap)(hcm:cap<=maxLen)(hcs:cols<=m)(hm9:m<=900)
    (J:okR (pw 200) (pw 200) m cols 0 0 (L.map RF.q)) :
    Calls Tryz.prog 135 #[.slice (some ⟨go,0,none⟩) n cap,.int .i64 cols] w λe w'=>∃ L2,e=.returned (.tuple #[.int .i64 ((Z7 cols 0 0 (L.map RF.q) false).2.1:Nat),.bool (Z7 cols 0 0 (L.map RF.q) false).2.2]) /\
     L2.length=n/\(∀ g ∈ L2.map RF.g,g ∈ L.map RF.g)/\L2.map RF.q=(Z7 cols 0 0 (L.map RF.q) false).1/\MatB 35 41 w' go L2/\Kept (λg=>g=go \/ g ∈ L.map RF.g) w w':=by
 have hmx:Tryz.prog.follows .mixedOrders=true:=by kernel_rfl
 have c8:=hcm;unfold maxLen at hcm;obtain⟨FIN,U⟩:∃ X,Z7 cols 0 0 (L.map RF.q) false=X:=⟨_,rfl⟩;rw[U];replace U:=Za U;replace J:=Za J;replace hn:=Za hn;go_enter Tryz.func135,Tryz.ntmps135;go_wp2_with fail
 go_loopg [8,6,7] cols (λk cv rv nv wr=>∃ (c r:Nat) (ng:Bool) (L2:List RF),c+k=cols/\cv=.int .i64 c/\rv=.int .i64 r/\nv=.bool ng/\r<=n/\MatB 35 41 wr go L2/\Hid (L2.length=n)/\Hid (∀ g ∈ L2.map RF.g,g ∈ L.map RF.g)/\Hid (Z7 k c r (L2.map RF.q) ng=FIN)/\Hid (okR (pw 200) (pw 200) m k c r (L2.map RF.q))/\Kept (λg=>g=go \/ g ∈ L.map RF.g) w wr)
 case atStart=>exact⟨0,0,false,L,by omega,rfl,rfl,rfl,Qz _,hM,hn,Za (λg h=>h),U,J,Kept.refl _ _⟩
 case round =>
  clear hM U J hn;obtain⟨c,r,ng,L2,e2,rfl,rfl,rfl,e7,hM,a0,b1,hE,J,hK⟩:=hrel;obtain⟨wA,rfl⟩:∃ wo:World,wo=wr:=⟨_,rfl⟩;have o:Hid ((L2.map RF.q).length=n):=Za (by rw[Qj];exact a0.out);cases gk with
  | zero =>
   obtain rfl:c=cols:=by omega
   have t1:decide ((c:Int)<(c:Int))=false:=by simp
   replace hM:=Za hM;replace hK:=Za hK;go_wp2_with fail;go_returns;have I:=hE.out;refine⟨L2,by rw[<- I];rfl,a0.out,b1.out,by rw[<- I];rfl,hM.out,hK.out⟩
  | succ j =>
   obtain rfl:c=cols-(j+1):=by omega
   obtain⟨c,hc⟩:∃ c,c=cols-(j+1):=⟨_,rfl⟩;rw[<- hc]at hE J e2 ⊢;have d7:c<cols:=by omega
   have t1:decide ((c:Int)<(cols:Int))=true:=decide_eq_true (by omega);by_cases hr:r=n
   case pos =>
    have t2:decide ((r:Int)<(n:Int))=false:=decide_eq_false (by omega);have e5:decide (r<n)=false:=decide_eq_false (by omega);have I:(L2.map RF.q,r,ng)=FIN:=by rw[<- hE.out];exact(Zma (by rw[o.out];exact hr)).symm
    replace I:=Za I;replace hr:=Za hr;replace hM:=Za hM;replace hK:=Za hK;replace hc:=Za hc;go_wp2_with fail;go_returns;have C:=I.out;refine⟨L2,by rw[<- C];rfl,a0.out,b1.out,by rw[<- C],hM.out,hK.out⟩
   have O:r<n:=by omega
   have t2:decide ((r:Int)<(n:Int))=true:=decide_eq_true (by omega);have b4:=Za (okR_bd J.out);replace hr:=Za hr;replace hc:=Za hc;replace hM:=Za hM;replace hK:=Za hK;go_wp2_with fail
   go_loopg [9] (n-r) (λk av wr=>∃ q:Nat,q+k=n/\av=.int .i64 q/\r<=q/\Hid (∀ i,r<=i->i<q->Zl (L2.map RF.q) i c=0)/\wr=wA)
   case atStart=>exact⟨r,by omega,rfl,Qc _,Za (λi h1 h2=>by omega),rfl⟩
   case round =>
    obtain⟨q,e6,rfl,d5,c4,rfl⟩:=hrel;cases gk with
    | zero =>
     obtain rfl:q=n:=by omega
     have t3:decide ((q:Int)<(q:Int))=false:=by simp
     have hp:Za0 (λi=>Zl (L2.map RF.q) i c == 0) (L2.map RF.q).length (L2.map RF.q).length r=q:=by
      rw[o.out];exact Zg5 (by omega) d5 (Qc _) (λi h1 h2=>by rw[c4.out i h1 h2];rfl) (λh=>by omega)
     have I:=Za ((Zlw (f:=j) (ng:=ng) (by rw[o.out];exact hr.out) hp o.out.symm).symm.trans hE.out);have a3:=Za (Zpt J.out (by rw[o.out];exact hr.out) hp o.out.symm);replace hp:=Za hp;go_wp2_with fail
     go_roundg j
     case measure=>omega
     case rel=>exact⟨c+1,r,ng,L2,by omega,by go_num,rfl,rfl,by omega,hM.out,a0,b1,I,a3,hK.out⟩
    | succ gk' =>
     obtain rfl:gk'=n-(q+1):=by omega
     have b2:q<n:=by omega
     have t3:decide ((q:Int)<(n:Int))=true:=decide_eq_true (by omega);have bq:(q:Int)<(n:Int):=by omega
     obtain⟨x,hx⟩:=Zal (L:=L2) (i:=q) (by rw[a0.out];exact b2)
     have a8:x.q.length=m:=by
      have:=b4.out.1 q (by rw[o.out];exact b2);rw[Qk,hx]at this;exact this
     obtain⟨cx,zx⟩:=hM.out.cell hx;obtain⟨fx,e4,e3⟩:=hM.out.row hx;rw[a8]at cx e4;unfold maxLen at e3;have bc:(c:Int)<(m:Int):=by omega
     obtain⟨n1,A1,k1,c1,m1,B1,j1,d1,p0,p1,p2,p3,a5⟩:=fx.at_ (i:=c) (by rw[a8];omega);have e8:=a5.1.2.1;have c0:Zl (L2.map RF.q) q c=x.q[c]?.getD 0:=by rw[Zdf,Zcl hx]
     rw[<- c0]at a5;by_cases hz:k1=0
     case pos =>
      have t4:((k1:Int) == 0)=true:=by simp[hz]
      have d8:decide (k1=0)=true:=by simpa using hz
      have c6:=a5.zero_iff.1 hz
      have d3:Hid (∀ i,r<=i->i<q+1->Zl (L2.map RF.q) i c=0):=Za (λi h1 h2=>by
       by_cases hi:i=q;rw[hi];exact c6
       ·exact c4.out i h1 (by omega))
      replace hz:=Za hz;clear c6 a5 fx zx p0 p2 p3 c0 a8 hx;go_wp2_with fail
      go_roundg (n-(q+1))
      case measure=>omega
      case rel=>exact⟨q+1,by omega,by go_num,by omega,d3,rfl⟩
     have t4:((k1:Int) == 0)=false:=by simp;omega
     have d8:decide (k1=0)=false:=by simpa using hz
     have a9:Zl (L2.map RF.q) q c≠0:=λe=>hz (a5.zero_iff.2 e);have t5:((q:Int) == (n:Int))=false:=beq_eq_false_iff_ne.2 (by omega);have e9:decide (q=n)=false:=decide_eq_false (by omega)
     have hp:Za0 (λi=>Zl (L2.map RF.q) i c == 0) (L2.map RF.q).length (L2.map RF.q).length r=q:=by
      rw[o.out];exact Zg5 (by omega) d5 (by omega) (λi h1 h2=>by rw[c4.out i h1 h2];rfl) (λ_=>by simpa using a9)
     have I:=Za ((Zmw (f:=j) (ng:=ng) (by rw[o.out];exact hr.out) hp (by rw[o.out];omega)).symm.trans hE.out);have a3:=Za (Zq3 J.out (by rw[o.out];exact hr.out) hp (by rw[o.out];omega));obtain⟨y,hy⟩:=Zal (L:=L2) (i:=r) (by rw[a0.out];exact O)
     have d4:y.q.length=m:=by
      have:=b4.out.1 r (by rw[o.out];exact O);rw[Qk,hy]at this;exact this
     obtain⟨cy,zy⟩:=hM.out.cell hy;rw[d4]at cy;have br:(r:Int)<(n:Int):=by omega
     have b3:Hid ((Zy L2 q r).map RF.q=Zy (L2.map RF.q) q r):=Za (Ze0 _ _ _ _);have e0:Hid ((Zy L2 q r).length=n):=Za (by rw[Zdm];exact a0.out)
     have c9:∀ x ∈ Zy L2 q r,x.q.length=m:=λx hx=>by
      have h1:=Zdi _ _ _ _ hx;obtain⟨i,hi,e⟩:=Qs h1;have:=b4.out.1 i (by rw[Qj];exact hi);rw[Qk,Qd hi,e]at this;exact this
     have d6:Zl ((Zy L2 q r).map RF.q) r c≠0:=by
      rw[b3.out,Zew (by rw[o.out];exact b2) (by rw[o.out];exact O),Zwh];exact a9
     have d0:∀ i j,SmN 200 200 (Zl ((Zy L2 q r).map RF.q) i j):=λi j=>by
      rw[b3.out,Zew (by rw[o.out];exact b2) (by rw[o.out];exact O)];exact b4.out.smN _ _
     have b5:Hid (∀ g ∈ (Zy L2 q r).map RF.g,g ∈ L.map RF.g):=Za (λg hg=>by
      rw[Ze0]at hg;exact b1.out g (Zdi _ _ _ _ hg))
     have hH:=Za (λ(W1:World) (h1:MatB 35 41 W1 go (Zy L2 q r))=>Zu7 go n cap (Zy L2 q r) m r c W1 h1 e0.out (by omega) hcap c8 c9 (by omega) O (by omega) d6 d0);replace hz:=Za hz;replace a9:=Za a9;replace hp:=Za hp;clear c9 d6 d0 fx a5 c0;by_cases Y:q=r
     case pos =>
      have t6:((q:Int) == (r:Int))=true:=beq_iff_eq.2 (by omega);have d9:((q:Int) != (r:Int))=false:=by rw[bne,t6];rfl
      have t7:decide (q=r)=true:=decide_eq_true Y;have c7:Zy L2 q r=L2:=by rw[Y];exact Zsf _ _
      have b9:MatB 35 41 wr go (Zy L2 q r):=by rw[c7];exact hM.out
      have a1:(ng != decide (q≠r))=ng:=by rw[decide_eq_false (by omega:¬ q≠r)];cases ng <;> rfl
      replace a1:=Za a1;replace Y:=Za Y;replace b9:=Za b9;clear c7;go_wp2_with fail;clear cx zx cy zy p0 p1 p2 p3;refine(hH.out wr b9.out).mono ?_;rintro e w5 ⟨rfl,L4,c2,c5,e1,a7,a2,a6⟩;rw[b3.out]at a7;have C:=I.out;have u:=a3.out;rw[<- a7]at C u;have b7:Hid (∀ g ∈ L4.map RF.g,g ∈ L.map RF.g):=Za (λg hg=>b5.out g (by rw[<- c5];exact hg));have b8:Hid (Kept (λg=>g=go \/ g ∈ L.map RF.g) w w5):=Za (hK.out.trans (a6.mono (λk _ hk=>.inr (b5.out k hk))));replace C:=Za C;replace u:=Za u;replace a2:=Za a2;clear a6;go_wp2_with fail
      go_roundg j
      case measure=>omega
      case rel=>exact⟨c+1,r+1,_,L4,by omega,by go_num,by go_num,rfl,by omega,a2.out,Za c2,b7,Za (by have h:=C.out;rw[a1.out]at h;exact h),u,b8.out⟩
     have t6:((q:Int) == (r:Int))=false:=beq_eq_false_iff_ne.2 (by omega);have d9:((q:Int) != (r:Int))=true:=by rw[bne,t6];rfl
     have t7:decide (q=r)=false:=decide_eq_false Y;have a1:(ng != decide (q≠r))=!ng:=by rw[decide_eq_true (by omega:q≠r)];cases ng <;> rfl
     obtain⟨V,hV⟩:∃ V,((wr.setCell ⟨go,q,none⟩ (.slice (some ⟨y.g,0,none⟩) m y.c)).setCell ⟨go,r,none⟩ (.slice (some ⟨x.g,0,none⟩) m x.c)).drew=V:=⟨_,rfl⟩
     have c3:MatB 35 41 V go (Zy L2 q r):=by
      have:=hM.out.swap hx hy;rw[a8,d4]at this;rw[<- hV];exact this.below (Zf (Qb _ _) 1)
     have b6:Kept (λg=>g=go \/ g ∈ L.map RF.g) w V:=by
      rw[<- hV];exact((hK.out.set_ (p:=⟨go,q,none⟩) (.inl (.inl rfl)) _).set_ (p:=⟨go,r,none⟩) (.inl (.inl rfl)) _).drewN 1
     replace a1:=Za a1;replace Y:=Za Y;replace c3:=Za c3;replace b6:=Za b6;obtain⟨⟨zs,b0⟩,-,-⟩:=hM.out;have a4:Blk (wr.setCell ⟨go,q,none⟩ (.slice (some ⟨y.g,0,none⟩) m y.c)) go 35 _:=Blk.set_ (w:=wr) b0 q (.slice (some ⟨y.g,0,none⟩) m y.c)
     have g3:(wr.setCell ⟨go,q,none⟩ (.slice (some ⟨y.g,0,none⟩) m y.c)).cell? ⟨go,r,none⟩=some (.slice (some ⟨y.g,0,none⟩) m y.c):=by
      rw[a4.cell,Array.getElem?_setIfInBounds,if_neg Y.out,<- b0.cell];exact cy
     have z3:=a4.frozen r;replace a4:=Za a4;replace b0:=Za b0;go_wp2_with fail;clear p0 p1 p2 p3;have T:wr.drew.cell? ⟨go,q,none⟩=some (.slice (some ⟨x.g,0,none⟩) m x.c)/\wr.drew.cell? ⟨go,r,none⟩=some (.slice (some ⟨y.g,0,none⟩) m y.c):=⟨cx,cy⟩;refine Z0 [13,15] (λwx=>wx.cell? ⟨go,q,none⟩=some (.slice (some ⟨x.g,0,none⟩) m x.c)/\wx.cell? ⟨go,r,none⟩=some (.slice (some ⟨y.g,0,none⟩) m y.c)) hmx T (λhxs=>?_);refine Zje 2 [0,1] rfl (by kernel_rfl) T ?_
     iterate 2 (refine tk1 (v:=?_) rfl (Qp ⟨by kernel_rfl,?_⟩) ?_;rotate_left;(· intro W2 hSw;(try dsimp only at hSw);go_simp;try with_reducible rfl);try simp only[Qh,Zgy,Zge,Zgs,putG_a,putG_s,putG_z])
     refine tk0 ?_;refine Zgf 2 [2,3] rfl (by kernel_rfl) T ?_
     iterate 2 (refine tk1 (v:=?_) rfl (Qp ⟨by kernel_rfl,?_⟩) ?_;rotate_left;(· intro W2 _;go_simp;try with_reducible rfl);try simp only[Qh,Zgy,Zge,Zgs,putG_a,putG_s,putG_z])
     refine tk0 ?_;refine Zje 4 [4,5,6,7] rfl (by kernel_rfl) T ?_
     iterate 4 (refine tk1 (v:=?_) rfl (Qp ⟨by kernel_rfl,?_⟩) ?_;rotate_left;(· intro W2 hSw;(try dsimp only at hSw);go_simp;try with_reducible rfl);try simp only[Qh,Zgy,Zge,Zgs,putG_a,putG_s,putG_z])
     refine tk0 ?_;refine Zgf 3 [8,9,10] rfl (by kernel_rfl) T ?_
     iterate 3 (refine tk1 (v:=?_) rfl (Qp ⟨by kernel_rfl,?_⟩) ?_;rotate_left;(· intro W2 _;go_simp;try with_reducible rfl);try simp only[Qh,Zgy,Zge,Zgs,putG_a,putG_s,putG_z])
     refine tk0 ?_;refine Zje 1 [11] rfl (by kernel_rfl) T ?_
     (refine tk1 (v:=?_) rfl (Qp ⟨by kernel_rfl,?_⟩) ?_;rotate_left;(· intro W2 hSw;(try dsimp only at hSw);go_simp;try with_reducible rfl);try simp only[Qh,Zgy,Zge,Zgs,putG_a,putG_s,putG_z])
     refine tk0 ?_;refine Zgf 1 [12] rfl (by kernel_rfl) T ?_
     (refine tk1 (v:=?_) rfl (Qp ⟨by kernel_rfl,?_⟩) ?_;rotate_left;(· intro W2 _;go_simp;try with_reducible rfl);try simp only[Qh,Zgy,Zge,Zgs,putG_a,putG_s,putG_z])
     refine tk0 ?_;have z1:wr.drew.frozen? ⟨go,q,none⟩=false:=zx;have z2:wr.drew.frozen? ⟨go,r,none⟩=false:=zy;have g1:wr.drew.cell? ⟨go,q,none⟩=some (.slice (some ⟨x.g,0,none⟩) m x.c):=cx;have g2:wr.drew.cell? ⟨go,r,none⟩=some (.slice (some ⟨y.g,0,none⟩) m y.c):=cy;refine Zm (i:=13) rfl (by kernel_rfl) (by kernel_rfl) (λK hK=>?_);go_simp;refine hK.out _ _ ?_;clear hK K
     try simp only[Qh,Zgy,Zge,Zgs]
     refine Zg (i:=14) (v:=?v14) rfl (by kernel_rfl) (by kernel_rfl) (by kernel_rfl) (by kernel_rfl) (Qp ⟨by kernel_rfl,?hy14⟩) (λhno=>absurd hno (by decide)) ?rest14
     case hy14=>(intro W2 _;go_simp;try with_reducible rfl)
     try simp only[Qh,Zgy,Zge,Zgs,putG_a,putG_s,putG_z]
     refine Zm (i:=15) rfl (by kernel_rfl) (by kernel_rfl) (λK hK=>?_);go_simp;(try rw[hV]);refine hK.out _ _ ?_;clear hK K
     try simp only[Qh,Zgy,Zge,Zgs]
     refine Zj (by kernel_rfl) ?_ _;refine QH ?_;clear hV g1 g2 g3 z1 z2 z3 T hxs;go_wp2_with fail;refine(hH.out V c3.out).mono ?_;rintro e w5 ⟨rfl,L4,c2,c5,e1,a7,a2,a6⟩;rw[b3.out]at a7;have C:=I.out;have u:=a3.out;rw[<- a7]at C u;have b7:Hid (∀ g ∈ L4.map RF.g,g ∈ L.map RF.g):=Za (λg hg=>b5.out g (by rw[<- c5];exact hg));have b8:Hid (Kept (λg=>g=go \/ g ∈ L.map RF.g) w w5):=Za (b6.out.trans (a6.mono (λk _ hk=>.inr (b5.out k hk))));replace C:=Za C;replace u:=Za u;replace a2:=Za a2;clear a6;go_wp2_with fail
     go_roundg j
     case measure=>omega
     case rel=>exact⟨c+1,r+1,_,L4,by omega,by go_num,by go_num,rfl,by omega,a2.out,Za c2,b7,Za (by have h:=C.out;rw[a1.out]at h;exact h),u,b8.out⟩
theorem Zkl{C D m:Nat}:∀ (f c r:Nat) (R:List (List Rat)) (ng:Bool),okR C D m f c r R->BdR C D m (Z7 f c r R ng).1
 | 0,_,_,_,_,h=>h
 | f+1,c,r,R,ng,h=>by
  by_cases h0:r=R.length;rw[Zma h0];exact h.1
  ·obtain⟨q,hq⟩:∃ q,Za0 (λi=>Zl R i c == 0) R.length R.length r=q:=⟨_,rfl⟩
   by_cases hn:q=R.length;rw[Zlw h0 hq hn];exact Zkl f _ _ _ _ (Zpt h h0 hq hn);rw[Zmw h0 hq hn];exact Zkl f _ _ _ _ (Zq3 h h0 hq hn)
theorem BdR.mono{C D C' D' m:Nat}{R:List (List Rat)}(h:BdR C D m R)(hC:C<=C')(hD:D<=D'):BdR C' D' m R:=⟨h.1,λi j=>⟨Qt (h.2 i j).1 hC,Qt (h.2 i j).2 hD⟩⟩
theorem Zl5{C D C' D' m:Nat}(hC:C<=C')(hD:D<=D'):∀ (f c r:Nat) (R:List (List Rat)),okR C D m f c r R->okR C' D' m f c r R
 | 0,_,_,_,h=>BdR.mono h hC hD
 | f+1,c,r,R,h=>⟨h.1.mono hC hD,h.2.imp id (λ⟨h1,h2⟩=>⟨λe=>Zl5 hC hD f _ _ _ (h1 e),λe=>Zl5 hC hD f _ _ _ (h2 e)⟩)⟩
def n0R(rs:List RX):Nat:=(rs[0]?.map RX.n).getD 0
def Zg1(k:Nat)(r:RX):Bool:=decide (r.n=k) && Zeo r.es
def Zhm(rs:List RX):Bool:=decide (12<rs.length) || rs.any RX.long
def Zgq(rs:List RX):Int:=if Zhm rs=true then 4 else if n0R rs=0 then 8 else if rs.all (Zg1 (n0R rs))=true then 0 else 8
def sqE(rs:List RX):Int:=if Zgq rs=0 then (if rs.length=n0R rs then 0 else 8)else Zgq rs
theorem Zn5{rs:List RX}(h:Zhm rs=true):Zgq rs=4:=by unfold Zgq;rw[if_pos h]
theorem Zn8{rs:List RX}(h:Zhm rs=false)(h0:n0R rs=0):Zgq rs=8:=by unfold Zgq;rw[if_neg (by simp[h]),if_pos h0]
theorem Zxr{rs:List RX}(h:Zhm rs=false)(h0:n0R rs≠0){r:RX}(hr:r ∈ rs)(hb:Zg1 (n0R rs) r=false):Zgq rs=8:=by
 unfold Zgq;rw[if_neg (by simp[h]),if_neg h0,if_neg];intro e;rw[QK]at e;have:=e r hr;rw[hb]at this;cases this
theorem matE_ok{rs:List RX}(h:Zhm rs=false)(h0:n0R rs≠0)(ha:rs.all (Zg1 (n0R rs))=true):Zgq rs=0:=by
 unfold Zgq;rw[if_neg (by simp[h]),if_neg h0,if_pos ha]
theorem Zwy{rs:List RX}{r:RX}(h:rs[0]?=some r):n0R rs=r.n:=by unfold n0R;rw[h];rfl
theorem Ztf(A:Option Addr)(n c:Nat)(rs:List RX)(w:World)(h:MXL w A n c rs)(E:Int)(hE:Zgq rs=E) :
    Calls Tryz.prog 126 #[.slice A n c] w λe w'=>e=.returned (.int .i64 E)/\Below w.heap.size w w':=by
 have hl:=h.1;have a9:=h.2.1;have a4:=h.2.2.1;unfold maxLen at a4;replace hE:=Za hE;by_cases h12:12<n
 ·have t1:decide ((12:Int)<(n:Int))=true:=decide_eq_true (by omega)
  obtain rfl:E=4:=by rw[<- hE.out];exact Zn5 (by unfold Zhm;rw[hl,decide_eq_true h12];rfl)
  go_enter Tryz.func126,Tryz.ntmps126;go_wp2_with fail;go_ret;exact⟨rfl,by first|exact Qb _ _|exact Zf (Qb _ _) _⟩
 have t1:decide ((12:Int)<(n:Int))=false:=decide_eq_false (by omega);obtain⟨x,hx⟩:∃ x,rs.any RX.long=x:=⟨_,rfl⟩;have C:Zhm rs=x:=by unfold Zhm;rw[hl,decide_eq_false h12,hx];rfl
 have hC:=Za (λW1 (hb:Below w.heap.size w W1)=>Zr3 A n c rs W1 (h.below hb) x hx);clear hx;replace C:=Za C;cases x
 case true =>
  obtain rfl:E=4:=by rw[<- hE.out];exact Zn5 C.out
  clear h;go_enter Tryz.func126,Tryz.ntmps126;go_wp2_with fail;refine(hC.out _ (by first|exact Qb _ _|exact Zf (Qb _ _) _)).mono ?_;rintro e w1 ⟨rfl,y⟩;go_wp2_with fail;go_ret;exact⟨rfl,by first|exact y|exact(Zf (Qb _ _) _).trans y⟩
 by_cases hn0:n=0
 ·subst hn0
  obtain rfl:E=8:=by
   rw[<- hE.out];have:rs=[]:=Qr hl;exact Zn8 C.out (by rw[this];rfl)
  clear h;go_enter Tryz.func126,Tryz.ntmps126;go_wp2_with fail;refine(hC.out _ (by first|exact Qb _ _|exact Zf (Qb _ _) _)).mono ?_;rintro e w1 ⟨rfl,y⟩;go_wp2_with fail;go_ret;exact⟨rfl,by first|exact y|exact(Zf (Qb _ _) _).trans y⟩
 have t2:((n:Int) == 0)=false:=by simp;omega
 have a8:decide (n=0)=false:=by simpa using hn0
 obtain⟨g,o,r0,rfl,Y,c0,V⟩:=h.at_ (k:=0) (by omega);have a0:=V.nlen;unfold maxLen at a0;have f:=Zwy Y;clear Y V;rw[Nat.add_zero]at c0;have a6:=Zo c0;by_cases hz:r0.n=0
 ·obtain rfl:E=8:=by rw[<- hE.out];exact Zn8 C.out (by rw[f,hz])
  have t3:((r0.n:Int) == 0)=true:=by simp[hz]
  have a5:decide (r0.n=0)=true:=by simpa using hz
  replace h:=Za h;replace f:=Za f;replace hz:=Za hz;go_enter Tryz.func126,Tryz.ntmps126;go_wp2_with fail;refine(hC.out _ (by first|exact Qb _ _|exact Zf (Qb _ _) _)).mono ?_;rintro e w1 ⟨rfl,y⟩;have I:Below w.heap.size w w1:=by first|exact y|exact(Zf (Qb _ _) _).trans y
  have k0:=Zb I c0;clear c0;go_wp2_with fail;go_ret;exact⟨rfl,I⟩
 have t3:((r0.n:Int) == 0)=false:=by simpa using hz
 have a5:decide (r0.n=0)=false:=by simpa using hz
 replace h:=Za h;replace hl:=Za hl;replace f:=Za f;replace hz:=Za hz;go_enter Tryz.func126,Tryz.ntmps126;go_wp2_with fail;refine(hC.out _ (by first|exact Qb _ _|exact Zf (Qb _ _) _)).mono ?_;rintro e w1 ⟨rfl,y⟩;have I:Below w.heap.size w w1:=by first|exact y|exact(Zf (Qb _ _) _).trans y
 have k0:=Zb I c0;clear y hC;go_wp2_with fail
 go_loopw [24] (λiv wr=>∃ i:Nat,i<=n/\iv=.int .i64 i/\Hid (∀ j e,j<i->rs[j]?=some e->Zg1 (n0R rs) e=true)/\Below w.heap.size w wr) (λiv _=>n-(intOf iv).toNat)
 case atStart=>exact⟨0,Qz _,rfl,Za (λj e hj=>by omega),(by first|exact I|exact Zf I _)⟩
 case round =>
  clear k0 I;obtain⟨i,a7,rfl,O,u⟩:=hrel;have k0:=Zb u c0;clear c0;by_cases hin:i<n
  case neg =>
   obtain rfl:n=i:=by omega
   have a3:decide ((n:Int)<(n:Int))=false:=by simp
   obtain rfl:E=0:=by
    rw[<- hE.out];refine matE_ok C.out (by rw[f.out];exact hz.out) ?_;rw[QK];intro e he;obtain⟨j,hj,a2⟩:=Qs he;exact O.out j e (by rw[hl.out]at hj;exact hj) (by rw[Qd hj,a2])
   go_wp2_with fail;go_ret;exact⟨rfl,u⟩
  have a3:decide ((i:Int)<(n:Int))=true:=decide_eq_true (by omega);obtain⟨g',o',r,hA,he,c1,hL⟩:=(h.out.below u).at_ hin;cases hA;have a1:=hL.nlen;unfold maxLen at a1;have bad:Zg1 (n0R rs) r=false->E=8:=λhf=>by rw[<- hE.out];exact Zxr C.out (by rw[f.out];exact hz.out) (Qo he) hf
  have good:Zg1 (n0R rs) r=true->Hid (∀ j e,j<i+1->rs[j]?=some e->Zg1 (n0R rs) e=true):=λhf=>Za (λj e' hj he'=>by
   rcases Nat.lt_or_ge j i with h'|h';exact O.out j e' h' he'
   ·obtain rfl:j=i:=by omega
    rw[he]at he';cases he';exact hf)
  replace bad:=Za bad;replace good:=Za good;replace he:=Za he;by_cases hq:r.n=r0.n
  case neg =>
   have t4:((r.n:Int) == (r0.n:Int))=false:=beq_eq_false_iff_ne.2 (by omega);have t5:((r.n:Int) != (r0.n:Int))=true:=by rw[bne,t4];rfl
   have T:decide (r.n=r0.n)=false:=by simpa using hq
   obtain rfl:E=8:=bad.out (by unfold Zg1;rw[f.out,T];rfl);clear hL;go_wp2_with fail;go_ret;exact⟨rfl,by first|exact u|exact Zf u _⟩
  have t4:((r.n:Int) == (r0.n:Int))=true:=beq_iff_eq.2 (by omega);have t5:((r.n:Int) != (r0.n:Int))=false:=by rw[bne,t4];rfl
  have T:decide (r.n=r0.n)=true:=by simpa using hq
  obtain⟨x,hx⟩:∃ x,Zeo r.es=x:=⟨_,rfl⟩;have hC:=Za (λW1 (hb:Below wr.heap.size wr W1)=>Zpy r.A r.n r.c r.es W1 (hL.below hb) x hx);replace hx:=Za hx;replace hq:=Za hq;clear hL;cases x
  ·obtain rfl:E=8:=bad.out (by unfold Zg1;rw[hx.out];simp)
   go_wp2_with fail;refine(hC.out _ (by first|exact Qb _ _|exact Zf (Qb _ _) _)).mono ?_;rintro e' w2 ⟨rfl,J⟩;go_wp2_with fail;go_ret;exact⟨rfl,(by first|exact u.trans (J.mono u.size)|exact(Zf u _).trans (J.mono u.size))⟩
  ·have U:=good.out (by unfold Zg1;rw[f.out,T,hx.out];rfl)
   go_wp2_with fail;refine(hC.out _ (by first|exact Qb _ _|exact Zf (Qb _ _) _)).mono ?_;rintro e' w2 ⟨rfl,J⟩;go_wp2_with fail
   go_roundw
   case rel=>exact⟨i+1,by omega,by go_num,U,(by first|exact u.trans (J.mono u.size)|exact(Zf u _).trans (J.mono u.size))⟩
   case measure=>simp[intOf];omega
theorem Zqv(A:Option Addr)(n c:Nat)(rs:List RX)(w:World)(h:MXL w A n c rs)(E:Int)(hE:sqE rs=E) :
    Calls Tryz.prog 80 #[.slice A n c] w λe w'=>e=.returned (.int .i64 E)/\Below w.heap.size w w':=by
 have hl:=h.1;have U:=h.2.1;have J:=h.2.2.1;unfold maxLen at J;obtain⟨F,hF⟩:∃ F,Zgq rs=F:=⟨_,rfl⟩;go_enter Tryz.func80,Tryz.ntmps80;go_wp2_with fail;refine(Ztf A n c rs w h F hF).mono ?_;rintro e w1 ⟨rfl,f⟩;unfold sqE at hE;rw[hF]at hE;by_cases hF0:F=0
 case neg =>
  have t1:(F == 0)=false:=by simpa using hF0
  have T:decide (F=0)=false:=by simpa using hF0
  rw[if_neg hF0]at hE;subst hE;replace hF:=Za hF;go_wp2_with fail;go_ret;exact⟨rfl,f⟩
 subst hF0;rw[if_pos rfl]at hE
 have I:0<n:=by
  rcases Nat.eq_zero_or_pos n with h0|h0
  ·exfalso
   have:rs=[]:=Qr (by omega);subst this;exact absurd hF (by decide)
  exact h0
 obtain⟨g,o,r0,rfl,u,c0,y⟩:=h.at_ (k:=0) I;have C:=y.nlen;unfold maxLen at C;rw[Zwy u,hl]at hE;rw[Nat.add_zero]at c0;replace c0:=Zb f c0;replace u:=Za u;replace hF:=Za hF;clear y h;by_cases hq:n=r0.n
 ·have t2:((n:Int) == (r0.n:Int))=true:=beq_iff_eq.2 (by omega)
  have t5:((n:Int) != (r0.n:Int))=false:=by rw[bne,t2];rfl
  have O:decide (n=r0.n)=true:=by simpa using hq
  rw[if_pos hq]at hE;subst hE;replace hq:=Za hq;go_wp2_with fail;go_ret;exact⟨rfl,f⟩
 ·have t2:((n:Int) == (r0.n:Int))=false:=beq_eq_false_iff_ne.2 (by omega)
  have t5:((n:Int) != (r0.n:Int))=true:=by rw[bne,t2];rfl
  have O:decide (n=r0.n)=false:=by simpa using hq
  rw[if_neg hq]at hE;subst hE;replace hq:=Za hq;go_wp2_with fail;go_ret;exact⟨rfl,f⟩
