/- Package linear: the exchange of two rows. Package linear: -/
import Derived.ScopeJumps
import Derived.WalkMore
import Derived.Test.YtdkhcplnoomcbaaGreatDoorZb11
set_option maxRecDepth 100000
set_option maxHeartbeats 16000000
set_option linter.unusedSimpArgs false
set_option linter.unusedVariables false
namespace Go.Proofs.YtdkhcplnoomcbaaGreatDoor
open Go.RowKit
open Act renaming put→Qa
open Nat renaming le_refl→Qb,lt_of_lt_of_le→Qd,add_sub_cancel'→Qn,le_trans→Qo,lt_of_le_of_lt→Qt,lt_succ_self→Qx,zero_add→QA,le_of_lt→QB,gcd→QC,zero_le→QF,not_lt_zero→QH
open Below renaming refl→Qc
open List renaming getElem?_set→Qe,length_map→Qf,replicate→Qg,getElem?_eq_getElem→Qh,mem_singleton→Qi,length_append→Qj,map_append→Qk,length_set→Qr,ext_getElem?→Qu,range→Qv,getElem?_eq_none→Qy,getElem?_map→QD,append_assoc→QE,nil_append→QI
open Int renaming natAbs_natCast→Ql,fdiv→Qw,natCast_mul→QJ
open Kept renaming refl→Qm
open Builtin renaming zeroCells→Qp
open Blk renaming new→Qq
open _root_.Array renaming toList_append→Qs
open Or renaming inl→Qz
open Option renaming getD_some→QG
attribute [local go_sem] Zf
theorem Ze0{v:Value}(h:∀ x,v≠limb x):NoLimb #[v]:=λi x=>by
 match i with
 | 0=>simpa using h x
 | i+1=>simp
theorem Zwo(gg gr ga gn go n cap q r:Nat)(ng:Bool)(vby:Value)(L:List RZ)(w:World)(h1:Blk w gg 167 #[.slice (some ⟨go,0,none⟩) n cap,vby])(h2:Blk w gr 3 #[.int .i64 r])(h3:Blk w ga 3 #[.int .i64 q])(h4:Blk w gn 4 #[.bool ng])
    (hM:MatZ 158 30 w go L) (hn:L.length=n) (hq:q<n) (hr:r<n) (hqr:q≠r) (hd:gg≠go/\gr≠go/\ga≠go/\gn≠go) :
    Calls Tryz.prog 149 #[.pointer (some ⟨gg,0,none⟩),.pointer (some ⟨gr,0,none⟩),.pointer (some ⟨ga,0,none⟩),.pointer (some ⟨gn,0,none⟩)] w λe w'=>e=.returned (.tuple #[]) /\
     MatZ 158 30 w' go (Zae L q r)/\Blk w' gn 4 #[.bool (!ng)]/\Kept (λk=>k=go \/ k=gn) w w':=by
 have hmx:=Gt;obtain⟨x,hx⟩:=Zc8 (L:=L) (i:=q) Gk;obtain⟨y,hy⟩:=Zc8 (L:=L) (i:=r) Gk;obtain⟨cx,zx⟩:=hM.cell hx;obtain⟨cy,zy⟩:=hM.cell hy;have c1:w.cell? ⟨gg,0,none⟩=some (.slice (some ⟨go,0,none⟩) n cap):=by rw[h1.cell];rfl
 have c2:w.cell? ⟨gr,0,none⟩=some (.int .i64 r):=by rw[h2.cell];rfl
 have c3:w.cell? ⟨ga,0,none⟩=some (.int .i64 q):=by rw[h3.cell];rfl
 have bq:(q:Int)<(n:Int):=Gk;have br:(r:Int)<(n:Int):=Gk;obtain⟨zs,u⟩:=hM.1;have h:Blk (w.setCell ⟨go,q,none⟩ (.slice (some ⟨y.g,0,none⟩) y.q.length y.q.length)) go 158 _:=u.set_ q (.slice (some ⟨y.g,0,none⟩) y.q.length y.q.length);have g1:(w.setCell ⟨go,q,none⟩ (.slice (some ⟨y.g,0,none⟩) y.q.length y.q.length)).cell? ⟨gg,0,none⟩=some (.slice (some ⟨go,0,none⟩) n cap):=by rw[(h1.far hd.1 _).cell];rfl
 have g2:(w.setCell ⟨go,q,none⟩ (.slice (some ⟨y.g,0,none⟩) y.q.length y.q.length)).cell? ⟨gr,0,none⟩=some (.int .i64 r):=by rw[(h2.far hd.2.1 _).cell];rfl
 have g3:(w.setCell ⟨go,q,none⟩ (.slice (some ⟨y.g,0,none⟩) y.q.length y.q.length)).cell? ⟨ga,0,none⟩=some (.int .i64 q):=by rw[(h3.far hd.2.2.1 _).cell];rfl
 have g4:(w.setCell ⟨go,q,none⟩ (.slice (some ⟨y.g,0,none⟩) y.q.length y.q.length)).cell? ⟨go,r,none⟩=some (.slice (some ⟨y.g,0,none⟩) y.q.length y.q.length):=by
  rw[h.cell,Array.getElem?_setIfInBounds,Gw hqr,<- u.cell];exact cy
 have z4:=h.frozen r;obtain⟨V,hV⟩:∃ V,((w.setCell ⟨go,q,none⟩ (.slice (some ⟨y.g,0,none⟩) y.q.length y.q.length)).setCell ⟨go,r,none⟩ (.slice (some ⟨x.g,0,none⟩) x.q.length x.q.length)).drew=V:=⟨_,rfl⟩;have I:Hid (MatZ 158 30 V go (Zae L q r)):=Zb (by rw[<- hV];exact(hM.swap hx hy).below (Zg (Qc _ _) 1));have f:Blk V gn 4 #[.bool ng]:=by rw[<- hV];exact(h4.far hd.2.2.2 _).far hd.2.2.2 _
 have a2:Hid (Kept (λk=>k=go \/ k=gn) w V):=Zb (by
  rw[<- hV];exact(((Qm _ w).set_ (p:=⟨go,q,none⟩) (.inl (.inl rfl)) _).set_ (p:=⟨go,r,none⟩) (.inl (.inl rfl)) _).drewN 1)
 have c5:V.cell? ⟨gn,0,none⟩=some (.bool ng):=by rw[f.cell];rfl
 have z5:=f.frozen 0;replace f:=Zb f;replace u:=Zb u;replace h:=Zb h;clear hM h1 h2 h3 h4;go_in;go_wp2_with fail;have o:w.drew.cell? ⟨gg,0,none⟩=some (.slice (some ⟨go,0,none⟩) n cap)/\w.drew.cell? ⟨gr,0,none⟩=some (.int .i64 r)/\w.drew.cell? ⟨ga,0,none⟩=some (.int .i64 q)/\w.drew.cell? ⟨go,r,none⟩=some (.slice (some ⟨y.g,0,none⟩) y.q.length y.q.length):=⟨c1,c2,c3,cy⟩;have E:(w.setCell ⟨go,q,none⟩ (.slice (some ⟨y.g,0,none⟩) y.q.length y.q.length)).drew.cell? ⟨gg,0,none⟩=some (.slice (some ⟨go,0,none⟩) n cap)/\(w.setCell ⟨go,q,none⟩ (.slice (some ⟨y.g,0,none⟩) y.q.length y.q.length)).drew.cell? ⟨gr,0,none⟩=some (.int .i64 r)/\(w.setCell ⟨go,q,none⟩ (.slice (some ⟨y.g,0,none⟩) y.q.length y.q.length)).drew.cell? ⟨ga,0,none⟩=some (.int .i64 q)/\(w.setCell ⟨go,q,none⟩ (.slice (some ⟨y.g,0,none⟩) y.q.length y.q.length)).drew.cell? ⟨go,r,none⟩=some (.slice (some ⟨y.g,0,none⟩) y.q.length y.q.length):=⟨g1,g2,g3,g4⟩;refine Zad [19] (λwx=>wx.cell? ⟨gg,0,none⟩=some (.slice (some ⟨go,0,none⟩) n cap)/\wx.cell? ⟨gr,0,none⟩=some (.int .i64 r)/\wx.cell? ⟨ga,0,none⟩=some (.int .i64 q)/\wx.cell? ⟨go,r,none⟩=some (.slice (some ⟨y.g,0,none⟩) y.q.length y.q.length)) hmx o (λhxs=>?_);refine Zin 15 [0,1,2,3,4,5,6,7,8,9,10,11,12,13,14] rfl Gj o ?_
 iterate 15 (refine tkA ?_;try simp only[Qa,Zf6,Zfl,Zfx,Gr,Gq,Gp])
 refine tk0 ?_;have a1:w.drew.cell? ⟨go,q,none⟩=some (.slice (some ⟨x.g,0,none⟩) x.q.length x.q.length):=cx;have Y:w.drew.frozen? ⟨go,q,none⟩=false:=zx;refine wpAnyL_o 15 λK hK=>?_;go_simp;refine hK.out _ _ (λ_=>o) ?_;clear hK K
 try simp only[Qa,Zf6,Zfl,Zfx]
 refine Zfm 1 [16] rfl Gj o ?_
 (refine tkA ?_;try simp only[Qa,Zf6,Zfl,Zfx,Gr,Gq,Gp])
 refine tk0 ?_;refine wpAnyL_o 17 λK hK=>?_;go_simp;refine hK.out _ _ (λ_=>E) ?_;clear hK K
 try simp only[Qa,Zf6,Zfl,Zfx]
 refine Zfm 1 [18] rfl Gj E ?_
 (refine tkA ?_;try simp only[Qa,Zf6,Zfl,Zfx,Gr,Gq,Gp])
 refine tk0 ?_;refine Zr (i:=19) rfl Gj Gj (λK hK=>?_);go_simp;(try rw[hV]);refine hK.out _ _ ?_;clear hK K
 try simp only[Qa,Zf6,Zfl,Zfx]
 refine wpAnyL_fin ?_;clear hV o E hxs a1 Y g1 g2 g3 g4 z4 c1 c2 c3 cx cy zx zy;obtain⟨V2,C⟩:∃ V2,V.setCell ⟨gn,0,none⟩ (.bool (!ng))=V2:=⟨_,rfl⟩;have U:Hid (Blk V2 gn 4 #[.bool (!ng)]):=Zb (by rw[<- C];exact f.out.set_ 0 (.bool (!ng)))
 have a0:Hid (MatZ 158 30 V2 go (Zae L q r)):=Zb (by
  rw[<- C];have O:Kept (λk=>k=gn) V (V.setCell ⟨gn,0,none⟩ (.bool (!ng))):=(Qm (λk=>k=gn) V).set_ (p:=⟨gn,0,none⟩) (.inl rfl) _;refine I.out.keptG O (λe=>hd.2.2.2 e.symm) (λs hs e=>?_) (λk hk=>⟨_,_,(hk▸f.out:Blk V k 4 #[.bool ng]),Ze0 (λx=>by simp)⟩);obtain⟨es,q1,-,-⟩:=(I.out.2.1 s hs).1;rw[e]at q1;have:=q1.type f.out
  revert this;decide)
 have J:Hid (Kept (λk=>k=go \/ k=gn) w V2):=Zb (by rw[<- C];exact a2.out.set_ (p:=⟨gn,0,none⟩) (.inl (.inr rfl)) _);go_wp2_with fail;(try rw[C]);go_returns;exact⟨rfl,a0.out,U.out,J.out⟩
theorem Zlu{f c r:Nat}{Z:List (List Int)}{ng:Bool}{last:Int}(h:r=Z.length):Zaw f c r Z ng last=(Z,r,ng,last):=by
 cases f with
 | zero=>rfl
 | succ f=>unfold Zaw;rw[Gx h]
theorem Zkq{f c r q:Nat}{Z:List (List Int)}{ng:Bool}{last:Int}(h:r≠Z.length)(hq:Zbf (λi=>Zag Z i c == 0) Z.length Z.length r=q)(hn:q=Z.length):Zaw (f+1) c r Z ng last=Zaw f (c+1) r Z ng last:=by
 show (if r=Z.length then _ else _)=_;rw[Gw h,hq,Gx hn]
theorem Zk4{f c r q:Nat}{Z:List (List Int)}{ng:Bool}{last:Int}(h:r≠Z.length)(hq:Zbf (λi=>Zag Z i c == 0) Z.length Z.length r=q)(hn:q≠Z.length):Zaw (f+1) c r Z ng last=Zaw f (c+1) (r+1) (Zde (Zae Z q r) r c last) (ng != decide (q≠r)) (Zag Z q c):=by
 show (if r=Z.length then _ else _)=_;rw[Gw h,hq,Gw hn]
theorem Zuz{C m f c r:Nat}{Z:List (List Int)}{last:Int}(h:okZ C m f c r Z last):BdZ C m Z/\last≠0/\last.natAbs<C:=by
 cases f with
 | zero=>exact h
 | succ f=>exact⟨h.1,h.2.1⟩
theorem Zp3{C m f c r q:Nat}{Z:List (List Int)}{last:Int}(h:okZ C m (f+1) c r Z last)(h0:r≠Z.length)(hq:Zbf (λi=>Zag Z i c == 0) Z.length Z.length r=q)(hn:q=Z.length):okZ C m f (c+1) r Z last:=by
 rcases h.2.2 with h1|h1;exact absurd h1 h0;exact h1.1 (by rw[hq];exact hn)
theorem Zp0{C m f c r q:Nat}{Z:List (List Int)}{last:Int}(h:okZ C m (f+1) c r Z last)(h0:r≠Z.length)(hq:Zbf (λi=>Zag Z i c == 0) Z.length Z.length r=q)(hn:q≠Z.length):okZ C m f (c+1) (r+1) (Zde (Zae Z q r) r c last) (Zag Z q c):=by
 rcases h.2.2 with h1|h1;exact absurd h1 h0;have:=h1.2 (by rw[hq];exact hn);rw[hq]at this;exact this
def ClzTo(L L2:List RZ)(r col:Nat)(last:Int)(i:Nat):Prop:=∀ j,j<L.length->Zat L2 j=if j<=r \/ i<=j then Zat L j else Zo2 (Zat L r) (Zat L j) col ((Zat L r)[col]?.getD 0) last
theorem IV{G:Prop}(h:G:=by
 by_cases h1:j<=r \/ i<=j;rw[Gx h1,Gx Gk];rw[Gw h1,Gw Gk]):G:=h
theorem ClzTo.step{L L2:List RZ}{r col i:Nat}{last:Int}{x:RZ}(h:ClzTo L L2 r col last i)(hl:L2.length=L.length)(hi:i<L.length)(hri:r<i)(hx:x.q=Zo2 (Zat L r) (Zat L i) col ((Zat L r)[col]?.getD 0) last):ClzTo L (L2.set i x) r col last (i+1):=by
 intro j hj;rw[Zs9 Gk,h j hj];by_cases hji:j=i;subst hji;rw[Gx rfl,hx,Gw Gk];rw[Gw hji];exact IV
theorem ClzTo.pass{L L2:List RZ}{r col i:Nat}{last:Int}(h:ClzTo L L2 r col last i)(hri:i<=r):ClzTo L L2 r col last (i+1):=by
 intro j hj;rw[h j hj];exact IV
theorem ClzTo.done{L L2:List RZ}{r col:Nat}{last:Int}(h:ClzTo L L2 r col last L.length)(hl:L2.length=L.length):L2.map RZ.q=Zde (L.map RZ.q) r col last:=by
 refine Zvq (by rw[Zhr];simpa using hl) (λi hi=>?_);rw[Zhr,Qf]at hi;rw[h i hi,Zqt (by simpa using hi),<- Zi8,<- Zi8,Ziy];by_cases h1:i<=r;rw[Gx (Qz h1),Gx h1];rw[Gw Gk,Gw h1]
theorem Exit.jump_mono{l:Nat}{J J':Act->World->Prop}{Q:Exit->Act->World->Prop}(h:∀ a w,J a w->J' a w):∀ e a w,Exit.jump l J Q e a w->Exit.jump l J' Q e a w:=λe a w he=>by
 cases e <;> first|exact he|exact⟨he.1,h _ _ he.2⟩
theorem Zly{P:Program}{a:Act}{w:World}{Q:Exit->Act->World->Prop}{c rest:Code}(l:Nat)(J:Act->World->Prop)(μ:Act->World->Nat)(hf:findLabel c l=some (Code.skip.seq rest))
    (pass:∀ a w,J a w->rest.wp P (Exit.jump l (λa' w'=>J a' w'/\μ a' w'<μ a w) Q) a w)
    (first:(∀ a w,J a w->rest.wp P (Exit.jump l J Q) a w)->c.wp P (Exit.jump l J Q) a w):(Code.scope c).wp P Q a w:=
 wp_scope_jumps l J μ hf (first λa w h=>wp_mono (pass a w h) (Exit.jump_mono λ_ _ h=>h.1)) (λa w h=>wp_seq (wp_skip (pass a w h)))
theorem Zq1(k r:Nat):swI k r r=k:=by unfold swI;split;assumption;rw[Gx rfl]
theorem Zqh{α:Type}(l:List α)(i:Nat):Zae l i i=l:=by
 apply Qu;intro j;unfold Zae;cases h:l[i]? with
 | none=>rfl
 | some x =>
  have hi:=(List.getElem?_eq_some_iff.1 h).1;simp only;rw[Qe,Qe,Qr];by_cases hij:i=j;subst hij;rw[Gx rfl,Gx hi,h];rw[Gw hij,Gw hij]
theorem Kept.and{G H:Nat->Prop}{w W V:World}(h1:Kept G w W)(h2:Kept H W V)(hG:∀ k,k<w.heap.size->H k->G k):Kept G w V:=
 ⟨h2.os.trans h1.os,h2.tape.trans h1.tape,h2.output.trans h1.output,Qo h1.size h2.size,λk hk hg=>(h2.block k (Qd hk h1.size) (λh=>hg (hG k hk h))).trans (h1.block k hk hg)⟩
theorem Zh5{a b:Int}{i j:Nat}(h:a.natAbs<pw i)(g:b.natAbs<pw j):(a*b).natAbs<pw (i+j):=by rw[Int.natAbs_mul];exact Zb6 h g
theorem Zqz{a b:Int}{i:Nat}(h:a.natAbs<pw i)(g:b.natAbs<pw i):(a-b).natAbs<pw (i+1):=by
 have:=Zhy i;omega
theorem Kept.shrink{G G':Nat->Prop}{w W V:World}(h1:Below w.heap.size w W)(h2:Kept G W V)(hG:∀ k,k<w.heap.size->G k->G' k):Kept G' w V:=
 ⟨h2.os.trans h1.os,h2.tape.trans h1.tape,h2.output.trans h1.output,Qo h1.size h2.size,λk hk hg=>(h2.block k (Qd hk h1.size) (λh=>hg (hG k hk h))).trans (h1.block k hk)⟩
theorem Ztz(T:Array Value):∀ i,i<118->∀ h:i<(#[T.getD 0 undef,T.getD 1 undef,T.getD 2 undef,T.getD 3 undef,T.getD 4 undef,T.getD 5 undef,T.getD 6 undef,T.getD 7 undef,T.getD 8 undef,T.getD 9 undef,T.getD 10 undef,T.getD 11 undef,T.getD 12 undef,T.getD 13 undef,T.getD 14 undef,T.getD 15 undef,T.getD 16 undef,T.getD 17 undef,T.getD 18 undef,T.getD 19 undef,T.getD 20 undef,T.getD 21 undef,T.getD 22 undef,T.getD 23 undef,T.getD 24 undef,T.getD 25 undef,T.getD 26 undef,T.getD 27 undef,T.getD 28 undef,T.getD 29 undef,T.getD 30 undef,T.getD 31 undef,T.getD 32 undef,T.getD 33 undef,T.getD 34 undef,T.getD 35 undef,T.getD 36 undef,T.getD 37 undef,T.getD 38 undef,T.getD 39 undef,T.getD 40 undef,T.getD 41 undef,T.getD 42 undef,T.getD 43 undef,T.getD 44 undef,T.getD 45 undef,T.getD 46 undef,T.getD 47 undef,T.getD 48 undef,T.getD 49 undef,T.getD 50 undef,T.getD 51 undef,T.getD 52 undef,T.getD 53 undef,T.getD 54 undef,T.getD 55 undef,T.getD 56 undef,T.getD 57 undef,T.getD 58 undef,T.getD 59 undef,T.getD 60 undef,T.getD 61 undef,T.getD 62 undef,T.getD 63 undef,T.getD 64 undef,T.getD 65 undef,T.getD 66 undef,T.getD 67 undef,T.getD 68 undef,T.getD 69 undef,T.getD 70 undef,T.getD 71 undef,T.getD 72 undef,T.getD 73 undef,T.getD 74 undef,T.getD 75 undef,T.getD 76 undef,T.getD 77 undef,T.getD 78 undef,T.getD 79 undef,T.getD 80 undef,T.getD 81 undef,T.getD 82 undef,T.getD 83 undef,T.getD 84 undef,T.getD 85 undef,T.getD 86 undef,T.getD 87 undef,T.getD 88 undef,T.getD 89 undef,T.getD 90 undef,T.getD 91 undef,T.getD 92 undef,T.getD 93 undef,T.getD 94 undef,T.getD 95 undef,T.getD 96 undef,T.getD 97 undef,T.getD 98 undef,T.getD 99 undef,T.getD 100 undef,T.getD 101 undef,T.getD 102 undef,T.getD 103 undef,T.getD 104 undef,T.getD 105 undef,T.getD 106 undef,T.getD 107 undef,T.getD 108 undef,T.getD 109 undef,T.getD 110 undef,T.getD 111 undef,T.getD 112 undef,T.getD 113 undef,T.getD 114 undef,T.getD 115 undef,T.getD 116 undef,T.getD 117 undef]:Array Value).size,T.getD i undef=(#[T.getD 0 undef,T.getD 1 undef,T.getD 2 undef,T.getD 3 undef,T.getD 4 undef,T.getD 5 undef,T.getD 6 undef,T.getD 7 undef,T.getD 8 undef,T.getD 9 undef,T.getD 10 undef,T.getD 11 undef,T.getD 12 undef,T.getD 13 undef,T.getD 14 undef,T.getD 15 undef,T.getD 16 undef,T.getD 17 undef,T.getD 18 undef,T.getD 19 undef,T.getD 20 undef,T.getD 21 undef,T.getD 22 undef,T.getD 23 undef,T.getD 24 undef,T.getD 25 undef,T.getD 26 undef,T.getD 27 undef,T.getD 28 undef,T.getD 29 undef,T.getD 30 undef,T.getD 31 undef,T.getD 32 undef,T.getD 33 undef,T.getD 34 undef,T.getD 35 undef,T.getD 36 undef,T.getD 37 undef,T.getD 38 undef,T.getD 39 undef,T.getD 40 undef,T.getD 41 undef,T.getD 42 undef,T.getD 43 undef,T.getD 44 undef,T.getD 45 undef,T.getD 46 undef,T.getD 47 undef,T.getD 48 undef,T.getD 49 undef,T.getD 50 undef,T.getD 51 undef,T.getD 52 undef,T.getD 53 undef,T.getD 54 undef,T.getD 55 undef,T.getD 56 undef,T.getD 57 undef,T.getD 58 undef,T.getD 59 undef,T.getD 60 undef,T.getD 61 undef,T.getD 62 undef,T.getD 63 undef,T.getD 64 undef,T.getD 65 undef,T.getD 66 undef,T.getD 67 undef,T.getD 68 undef,T.getD 69 undef,T.getD 70 undef,T.getD 71 undef,T.getD 72 undef,T.getD 73 undef,T.getD 74 undef,T.getD 75 undef,T.getD 76 undef,T.getD 77 undef,T.getD 78 undef,T.getD 79 undef,T.getD 80 undef,T.getD 81 undef,T.getD 82 undef,T.getD 83 undef,T.getD 84 undef,T.getD 85 undef,T.getD 86 undef,T.getD 87 undef,T.getD 88 undef,T.getD 89 undef,T.getD 90 undef,T.getD 91 undef,T.getD 92 undef,T.getD 93 undef,T.getD 94 undef,T.getD 95 undef,T.getD 96 undef,T.getD 97 undef,T.getD 98 undef,T.getD 99 undef,T.getD 100 undef,T.getD 101 undef,T.getD 102 undef,T.getD 103 undef,T.getD 104 undef,T.getD 105 undef,T.getD 106 undef,T.getD 107 undef,T.getD 108 undef,T.getD 109 undef,T.getD 110 undef,T.getD 111 undef,T.getD 112 undef,T.getD 113 undef,T.getD 114 undef,T.getD 115 undef,T.getD 116 undef,T.getD 117 undef]:Array Value)[i]
 | 0,_,_=>rfl
 | 1,_,_=>rfl
 | 2,_,_=>rfl
 | 3,_,_=>rfl
 | 4,_,_=>rfl
 | 5,_,_=>rfl
 | 6,_,_=>rfl
 | 7,_,_=>rfl
 | 8,_,_=>rfl
 | 9,_,_=>rfl
 | 10,_,_=>rfl
 | 11,_,_=>rfl
 | 12,_,_=>rfl
 | 13,_,_=>rfl
 | 14,_,_=>rfl
 | 15,_,_=>rfl
 | 16,_,_=>rfl
 | 17,_,_=>rfl
 | 18,_,_=>rfl
 | 19,_,_=>rfl
 | 20,_,_=>rfl
 | 21,_,_=>rfl
 | 22,_,_=>rfl
 | 23,_,_=>rfl
 | 24,_,_=>rfl
 | 25,_,_=>rfl
 | 26,_,_=>rfl
 | 27,_,_=>rfl
 | 28,_,_=>rfl
 | 29,_,_=>rfl
 | 30,_,_=>rfl
 | 31,_,_=>rfl
 | 32,_,_=>rfl
 | 33,_,_=>rfl
 | 34,_,_=>rfl
 | 35,_,_=>rfl
 | 36,_,_=>rfl
 | 37,_,_=>rfl
 | 38,_,_=>rfl
 | 39,_,_=>rfl
 | 40,_,_=>rfl
 | 41,_,_=>rfl
 | 42,_,_=>rfl
 | 43,_,_=>rfl
 | 44,_,_=>rfl
 | 45,_,_=>rfl
 | 46,_,_=>rfl
 | 47,_,_=>rfl
 | 48,_,_=>rfl
 | 49,_,_=>rfl
 | 50,_,_=>rfl
 | 51,_,_=>rfl
 | 52,_,_=>rfl
 | 53,_,_=>rfl
 | 54,_,_=>rfl
 | 55,_,_=>rfl
 | 56,_,_=>rfl
 | 57,_,_=>rfl
 | 58,_,_=>rfl
 | 59,_,_=>rfl
 | 60,_,_=>rfl
 | 61,_,_=>rfl
 | 62,_,_=>rfl
 | 63,_,_=>rfl
 | 64,_,_=>rfl
 | 65,_,_=>rfl
 | 66,_,_=>rfl
 | 67,_,_=>rfl
 | 68,_,_=>rfl
 | 69,_,_=>rfl
 | 70,_,_=>rfl
 | 71,_,_=>rfl
 | 72,_,_=>rfl
 | 73,_,_=>rfl
 | 74,_,_=>rfl
 | 75,_,_=>rfl
 | 76,_,_=>rfl
 | 77,_,_=>rfl
 | 78,_,_=>rfl
 | 79,_,_=>rfl
 | 80,_,_=>rfl
 | 81,_,_=>rfl
 | 82,_,_=>rfl
 | 83,_,_=>rfl
 | 84,_,_=>rfl
 | 85,_,_=>rfl
 | 86,_,_=>rfl
 | 87,_,_=>rfl
 | 88,_,_=>rfl
 | 89,_,_=>rfl
 | 90,_,_=>rfl
 | 91,_,_=>rfl
 | 92,_,_=>rfl
 | 93,_,_=>rfl
 | 94,_,_=>rfl
 | 95,_,_=>rfl
 | 96,_,_=>rfl
 | 97,_,_=>rfl
 | 98,_,_=>rfl
 | 99,_,_=>rfl
 | 100,_,_=>rfl
 | 101,_,_=>rfl
 | 102,_,_=>rfl
 | 103,_,_=>rfl
 | 104,_,_=>rfl
 | 105,_,_=>rfl
 | 106,_,_=>rfl
 | 107,_,_=>rfl
 | 108,_,_=>rfl
 | 109,_,_=>rfl
 | 110,_,_=>rfl
 | 111,_,_=>rfl
 | 112,_,_=>rfl
 | 113,_,_=>rfl
 | 114,_,_=>rfl
 | 115,_,_=>rfl
 | 116,_,_=>rfl
 | 117,_,_=>rfl
 | n+118,h,_=>absurd h Gk
theorem Zkh{T:Array Value}{v0 v1 v2 v4 v5 v6 v7:Value}{p:Prop}(hs:T.size=118)(h0:T.getD 0 undef=v0)(h1:T.getD 1 undef=v1)(h2:T.getD 2 undef=v2)(h4:T.getD 4 undef=v4)(h5:T.getD 5 undef=v5)(h6:T.getD 6 undef=v6)(h7:T.getD 7 undef=v7)(hp:p) :
    ∃ u:Nat->Value,({ tmps:=T,defers:=[] }:Act)={ tmps:=#[v0,v1,v2,u 3,v4,v5,v6,v7,u 8,u 9,u 10,u 11,u 12,u 13,u 14,u 15,u 16,u 17,u 18,u 19,u 20,u 21,u 22,u 23,u 24,u 25,u 26,u 27,u 28,u 29,u 30,u 31,u 32,u 33,u 34,u 35,u 36,u 37,u 38,u 39,u 40,u 41,u 42,u 43,u 44,u 45,u 46,u 47,u 48,u 49,u 50,u 51,u 52,u 53,u 54,u 55,u 56,u 57,u 58,u 59,u 60,u 61,u 62,u 63,u 64,u 65,u 66,u 67,u 68,u 69,u 70,u 71,u 72,u 73,u 74,u 75,u 76,u 77,u 78,u 79,u 80,u 81,u 82,u 83,u 84,u 85,u 86,u 87,u 88,u 89,u 90,u 91,u 92,u 93,u 94,u 95,u 96,u 97,u 98,u 99,u 100,u 101,u 102,u 103,u 104,u 105,u 106,u 107,u 108,u 109,u 110,u 111,u 112,u 113,u 114,u 115,u 116,u 117],defers:=[] }/\p:=by
 refine⟨λk=>T.getD k undef,?_,hp⟩;subst h0 h1 h2 h4 h5 h6 h7;congr 1;apply Array.ext;rw[hs];rfl;intro i e f;have hi:i<118:=Gk;have hT:T[i]=T.getD i undef:=by rw[Array.getD_eq_getD_getElem?,Array.getElem?_eq_getElem e];rfl
 rw[hT];clear hT e;exact Ztz T i hi f
def colOf:Value->Int | .int _ q=>q|_=>0
theorem Ey{G:Prop}(h:G:=by
 obtain⟨X,hX,cj,q4,st⟩:=Zbt (B:=gl) ln lA lk lc (Below.refl gl ((wA.setCell ⟨gr,0,none⟩ (.int .i64 r)).setCell ⟨gn,0,none⟩ (.bool ng))) (Nat.le_refl gl) ((b3.far (Ne.symm d3) _).far (Ne.symm d4) _);have x1:Blk X gr 3 #[.int .i64 r]:=by rw[<- hX];exact((((b1.set_ 0 (.int .i64 r)).far d1 _).far d3 _).far d3 _)
 have x2:Blk X gn 4 #[.bool ng]:=by rw[<- hX];exact(((b2.far (Ne.symm d1) _).set_ 0 (.bool ng)).far d4 _).far d4 _
 have cQ:Kept (λk=>k=gr \/ k=gn \/ k=gl) wA X:=by
  rw[<- hX];exact((((Kept.refl _ wA).set_ (p:=⟨gr,0,none⟩) (.inl (.inl rfl)) _).set_ (p:=⟨gn,0,none⟩) (.inl (.inr (.inl rfl))) _).set_ (p:=⟨gl,0,none⟩) (.inl (.inr (.inr rfl))) _).set_ (p:=⟨gl,1,none⟩) (.inl (.inr (.inr rfl))) _
 have dD:∀ k,(k=gr \/ k=gn \/ k=gl)->∃ t cs,Blk wA k t cs/\NoLimb cs:=λk hk=>by
  rcases hk with rfl|rfl|rfl;exact⟨_,_,b1,Ze0 (λx=>by simp)⟩;exact⟨_,_,b2,Ze0 (λx=>by simp)⟩;exact⟨_,_,b3,Zfk _ _ _ _⟩
 have dZ:Hid (MatZ 158 30 X go L2):=Zb (eF.keptG cQ (λh=>by have:=e4 go (.inl rfl);omega) (λs hs h=>by have:=e4 s.g (.inr (aQ _ (List.mem_map.2 ⟨s,hs,rfl⟩)));omega) dD);have eb:Hid (Wd X ln lA lk lc last):=Zb (cQ.wd bX dD)
 have dl:Hid (Kept (λg=>g=go \/ g ∈ L0.map RZ.g) w X):=Zb (Kept.shrink (by rw[cU.out];exact ar.out) (hK.trans (cQ.mono (λk _ h=>by rcases h with h|h|h <;> simp[h]))) (λk hk h=>by
  rw[cU.out]at hk;rcases h with h|h|h|h|h;exact .inl h;exact .inr h;omega;omega;omega))
 have c1:wA.cell? ⟨gr,0,none⟩=some (.int .i64 r):=by rw[b1.cell];rfl
 have z1:=b1.frozen 0;have c2:wA.cell? ⟨gn,0,none⟩=some (.bool ng):=by rw[b2.cell];rfl
 have z2:=b2.frozen 0;obtain⟨c3,c4,z3,z4⟩:=b3.two;have dP:=b2.far (p:=⟨gr,0,none⟩) (Ne.symm d1) (Value.int .i64 r);have gj:(wA.setCell ⟨gr,0,none⟩ (.int .i64 r)).cell? ⟨gn,0,none⟩=some (.bool ng):=by rw[dP.cell];rfl
 have jl:=dP.frozen 0;obtain⟨gq,gu,jm,jn⟩:=(b3.far (p:=⟨gr,0,none⟩) (Ne.symm d3) (Value.int .i64 r)).two;have gi:(wA.setCell ⟨gr,0,none⟩ (.int .i64 r)).cell? ⟨gr,0,none⟩=some (.int .i64 r):=by rw[(b1.set_ 0 (.int .i64 r)).cell];rfl
 have dR:((wA.setCell ⟨gr,0,none⟩ (.int .i64 r)).setCell ⟨gn,0,none⟩ (.bool ng)).cell? ⟨gr,0,none⟩=some (.int .i64 r):=by rw[((b1.set_ 0 (.int .i64 r)).far (p:=⟨gn,0,none⟩) d1 _).cell];rfl
 have dS:((wA.setCell ⟨gr,0,none⟩ (.int .i64 r)).setCell ⟨gn,0,none⟩ (.bool ng)).cell? ⟨gn,0,none⟩=some (.bool ng):=by rw[(dP.set_ 0 (.bool ng)).cell];rfl
 have fP:=(dP.set_ 0 (.bool ng)).frozen 0;obtain⟨dT,dU,fQ,fR⟩:=((b3.far (p:=⟨gr,0,none⟩) (Ne.symm d3) (Value.int .i64 r)).far (p:=⟨gn,0,none⟩) (Ne.symm d4) (Value.bool ng)).two;obtain⟨y3,y4,-,-⟩:=q4.two;have y1:X.cell? ⟨gr,0,none⟩=some (.int .i64 r):=by rw[x1.cell];rfl
 have y2:X.cell? ⟨gn,0,none⟩=some (.bool ng):=by rw[x2.cell];rfl
 clear b1 b2 b3 dP eF bX hK hE aZ st cj cQ dD;go_wp2_with fail;have fh:wA.drew.cell? ⟨gr,0,none⟩=some (.int .i64 r)/\wA.drew.cell? ⟨gn,0,none⟩=some (.bool ng)/\wA.drew.cell? ⟨gl,0,none⟩=some (.bool ln)/\wA.drew.cell? ⟨gl,1,none⟩=some (.slice lA lk lc):=⟨c1,c2,c3,c4⟩;have gK:(wA.setCell ⟨gr,0,none⟩ (.int .i64 r)).drew.cell? ⟨gr,0,none⟩=some (.int .i64 r)/\(wA.setCell ⟨gr,0,none⟩ (.int .i64 r)).drew.cell? ⟨gn,0,none⟩=some (.bool ng)/\(wA.setCell ⟨gr,0,none⟩ (.int .i64 r)).drew.cell? ⟨gl,0,none⟩=some (.bool ln)/\(wA.setCell ⟨gr,0,none⟩ (.int .i64 r)).drew.cell? ⟨gl,1,none⟩=some (.slice lA lk lc):=⟨gi,gj,gq,gu⟩;have gM:((wA.setCell ⟨gr,0,none⟩ (.int .i64 r)).setCell ⟨gn,0,none⟩ (.bool ng)).drew.cell? ⟨gr,0,none⟩=some (.int .i64 r)/\((wA.setCell ⟨gr,0,none⟩ (.int .i64 r)).setCell ⟨gn,0,none⟩ (.bool ng)).drew.cell? ⟨gn,0,none⟩=some (.bool ng)/\((wA.setCell ⟨gr,0,none⟩ (.int .i64 r)).setCell ⟨gn,0,none⟩ (.bool ng)).drew.cell? ⟨gl,0,none⟩=some (.bool ln)/\((wA.setCell ⟨gr,0,none⟩ (.int .i64 r)).setCell ⟨gn,0,none⟩ (.bool ng)).drew.cell? ⟨gl,1,none⟩=some (.slice lA lk lc):=⟨dR,dS,dT,dU⟩;have gN:X.drew.cell? ⟨gr,0,none⟩=some (.int .i64 r)/\X.drew.cell? ⟨gn,0,none⟩=some (.bool ng)/\X.drew.cell? ⟨gl,0,none⟩=some (.bool ln)/\X.drew.cell? ⟨gl,1,none⟩=some (.slice lA lk lc):=⟨y1,y2,y3,y4⟩
 refine Zad [] (λwx=>wx.cell? ⟨gr,0,none⟩=some (.int .i64 r)/\wx.cell? ⟨gn,0,none⟩=some (.bool ng)/\wx.cell? ⟨gl,0,none⟩=some (.bool ln)/\wx.cell? ⟨gl,1,none⟩=some (.slice lA lk lc)) hmx fh (λhxs=>?_);refine Zin 3 [0,1,2] rfl Gj fh ?_
 iterate 3 (refine tkA ?_;try simp only[Act.put,Zf6,Zfl,Zfx,Gr,Gq,Gp])
 refine tk0 ?_;refine wpAnyL_o 3 λK hK=>?_;go_simp;(try rw[hX]);refine hK.out _ _ (λ_=>gK) ?_;clear hK K
 try simp only[Act.put,Zf6,Zfl,Zfx]
 refine wpAnyL_o 4 λK hK=>?_;go_simp;(try rw[hX]);refine hK.out _ _ (λ_=>gM) ?_;clear hK K
 try simp only[Act.put,Zf6,Zfl,Zfx]
 refine wpAnyL_o 5 λK hK=>?_;go_simp;(try rw[hX]);refine hK.out _ _ (λ_=>gN) ?_;clear hK K
 try simp only[Act.put,Zf6,Zfl,Zfx]
 refine wpAnyL_fin ?_;clear c1 c2 c3 c4 z1 z2 z3 z4 gj jl gq gu jm jn fh gK gM gN hxs gi dR dS dT dU fP fQ fR;go_wp2_with fail;simp only[Exit.jump];refine bodyPost_ret (v:=.tuple #[.int .i64 r,.bool ng,.agg #[.bool ln,.slice lA lk lc]]) (by simp[results,Tryz.results116,go_sem,y1,y2,y3,y4]) rfl ?_;have fe:=dI.out;exact⟨L2,ln,lA,lk,lc,by rw[<- fe],by rw[<- fe];exact eb.out,dr,aQ,by rw[<- fe],dZ.out.below (Zg (Below.refl _ _) 1),dl.out.drewN 1⟩):G:=h
theorem Zhl(go n cap:Nat)(L0:List RZ)(vby:Value)(m cols:Nat)(w:World)(hM:MatZ 158 30 w go L0)(hn:L0.length=n)(hn0:0<n)(hn9:n<=900)(hcap:n<=cap)(hcm:cap<=maxLen)(hcs:cols<=m)(hm9:m<=900)
    (l8:okZ (pw 200) m cols 0 0 (L0.map RZ.q) 1) :
    Calls Tryz.prog 116 #[.agg #[.slice (some ⟨go,0,none⟩) n cap,vby],.int .i64 cols] w λe w'=>∃ L2 ln lA lk lc,
     e=.returned (.tuple #[.int .i64 ((Zaw cols 0 0 (L0.map RZ.q) false 1).2.1:Nat),.bool (Zaw cols 0 0 (L0.map RZ.q) false 1).2.2.1,.agg #[.bool ln,.slice lA lk lc]])/\Wd w' ln lA lk lc (Zaw cols 0 0 (L0.map RZ.q) false 1).2.2.2 /\
     L2.length=n/\(∀ g ∈ L2.map RZ.g,g ∈ L0.map RZ.g)/\L2.map RZ.q=(Zaw cols 0 0 (L0.map RZ.q) false 1).1/\MatZ 158 30 w' go L2/\Kept (λg=>g=go \/ g ∈ L0.map RZ.g) w w':=by
 have hmx:=Gt;have C3:=hcm;unfold maxLen at hcm;obtain⟨FIN,f5⟩:=Gz (Zaw cols 0 0 (L0.map RZ.q) false 1);rw[f5];replace f5:=Zb f5;replace l8:=Zb l8;replace hn:=Zb hn;obtain⟨W0,q9,ar,⟨q0,q1,q2,q3⟩,s0⟩:=Zfj w 167 #[.slice (some ⟨go,0,none⟩) n cap,vby] 3 #[.int .i64 0] 4 #[.bool false] 30 #[.bool false,.slice none 0 0];obtain⟨gg,cU⟩:=Gz w.heap.size;rw[cU]at q0 q1 q2 q3 s0 ar;go_in;go_wp2_with fail;(try rw[q9]);(try rw[cU]);obtain⟨gr,r6⟩:=Gz (gg+1);rw[r6]at q1 q2 q3 ⊢;obtain⟨gn,q6⟩:=Gz (gr+1);rw[q6]at q2 q3 ⊢;obtain⟨gl,o2⟩:=Gz (gn+1);rw[o2]at q3 ⊢;have D6:W0.heap.size=gl+1:=by rw[s0];omega
 have B5:=hM.below (by rw[cU];exact ar:Below w.heap.size w W0)
 have z5:∀ k,(k=go \/ k ∈ L0.map RZ.g)->k<gg:=λk hk=>by
  obtain⟨t,cs,hb,-⟩:=hM.boxes k hk;rw[<- cU];exact hb.lt
 have hD:Hid (gg<gr/\gr<gn/\gn<gl/\(∀ k,(k=go \/ k ∈ L0.map RZ.g)->k<gg)):=Zb ⟨by omega,by omega,by omega,z5⟩;have x9:=Zb hM;clear r6 q6 o2 s0 hM B5 q9;replace cU:=Zb cU;replace ar:=Zb ar
 refine Zly 0 (λa' w'=>∃ (c r:Nat) (ng:Bool) (last:Int) (ln:Bool) (lA:Option Addr) (lk lc:Nat) (L2:List RZ) (u:Nat->Value),a'={ tmps:=#[.agg #[.slice (some ⟨go,0,none⟩) n cap,vby],.int .i64 cols,.pointer (some ⟨gg,0,none⟩),u 3,.pointer (some ⟨gr,0,none⟩),.pointer (some ⟨gn,0,none⟩),.pointer (some ⟨gl,0,none⟩),.int .i64 c,u 8,u 9,u 10,u 11,u 12,u 13,u 14,u 15,u 16,u 17,u 18,u 19,u 20,u 21,u 22,u 23,u 24,u 25,u 26,u 27,u 28,u 29,u 30,u 31,u 32,u 33,u 34,u 35,u 36,u 37,u 38,u 39,u 40,u 41,u 42,u 43,u 44,u 45,u 46,u 47,u 48,u 49,u 50,u 51,u 52,u 53,u 54,u 55,u 56,u 57,u 58,u 59,u 60,u 61,u 62,u 63,u 64,u 65,u 66,u 67,u 68,u 69,u 70,u 71,u 72,u 73,u 74,u 75,u 76,u 77,u 78,u 79,u 80,u 81,u 82,u 83,u 84,u 85,u 86,u 87,u 88,u 89,u 90,u 91,u 92,u 93,u 94,u 95,u 96,u 97,u 98,u 99,u 100,u 101,u 102,u 103,u 104,u 105,u 106,u 107,u 108,u 109,u 110,u 111,u 112,u 113,u 114,u 115,u 116,u 117],defers:=[] }/\c<=cols/\r<=n /\
     Blk w' gr 3 #[.int .i64 r]/\Blk w' gn 4 #[.bool ng]/\Blk w' gl 30 #[.bool ln,.slice lA lk lc]/\Wd w' ln lA lk lc last/\MatZ 158 30 w' go L2/\L2.length=n/\(∀ g ∈ L2.map RZ.g,g ∈ L0.map RZ.g) /\
     Zaw (cols-c) c r (L2.map RZ.q) ng last=FIN/\okZ (pw 200) m (cols-c) c r (L2.map RZ.q) last/\Kept (λk=>k=go \/ k ∈ L0.map RZ.g \/ k=gr \/ k=gn \/ k=gl) W0 w') (λa' _=>cols-(colOf (a'.tmps.getD 7 undef)).toNat) rfl ?pass ?first
 case first =>
  intro m0;go_wp2_with fail;refine(Zcn 1 W0 Gi Gi).mono ?_;rintro e w1 ⟨o1,ln,lA,lk,lc,rfl,hN⟩;obtain⟨e1,e2,e3,e4⟩:=hD.out;have k3:=Zc o1 q3;obtain⟨y0,y1,y2,y3⟩:=k3.two;obtain⟨X,hX,cj,q4,st⟩:=Zbt ln lA lk lc (o1.mono (by omega:gl<=W0.heap.size)) (Qb gl) k3;have k1:=q1.below cj Gk;have k2:=q2.below cj Gk;have dZ:=x9.out.below (by rw[cU.out];exact ar.out.trans (cj.mono Gk):Below w.heap.size w X)
  have dl:Kept (λk=>k=go \/ k ∈ L0.map RZ.g \/ k=gr \/ k=gn \/ k=gl) W0 X:=by
   rw[<- hX];exact((Kept.of_below o1).set_ (p:=⟨gl,0,none⟩) (.inl (.inr (.inr (.inr (.inr rfl))))) _).set_ (p:=⟨gl,1,none⟩) (.inl (.inr (.inr (.inr (.inr rfl))))) _
  have eb:=st.1 _ _ _ _ _ hN;go_wp2_with fail;(try rw[hX]);refine wp_label ?_;refine(by assumption:∀ a w,Code.wp _ _ _ a w->_) _ _ ?_;exact m0 _ _ ⟨0,0,false,1,ln,lA,lk,lc,L0,Zkh rfl rfl rfl rfl rfl rfl rfl rfl ⟨QF _,QF _,k1,k2,q4,eb,dZ,hn.out,λg h=>h,f5.out,l8.out,dl⟩⟩
 case pass =>
  rintro a' wA ⟨c,r,ng,last,ln,lA,lk,lc,L2,u,rfl,C7,C5,b1,b2,b3,bX,eF,dr,aQ,hE,aZ,hK⟩;obtain⟨e1,e2,e3,e4⟩:=hD.out;have d1:gr≠gn:=Gk;have d3:gr≠gl:=Gk;have d4:gn≠gl:=Gk
  have b0:Blk wA gg 167 #[.slice (some ⟨go,0,none⟩) n cap,vby]:=hK.blk q0 (λh=>by
   rcases h with h|h|h|h|h;have:=e4 gg (.inl h);omega;have:=e4 gg (.inr h);omega;omega;omega;omega)
  obtain⟨x0,-,-,-⟩:=b0.two;have i6:=Zb (Zuz aZ);have E:Hid ((L2.map RZ.q).length=n):=Zb (by rw[Qf];exact dr);by_cases hc:c=cols
  case pos =>
   have t1:((c:Int) == (cols:Int))=true:=beq_iff_eq.2 Gk;have z0:decide (c=cols)=true:=Gv hc;replace hc:=Zb hc;have dI:Hid ((L2.map RZ.q,r,ng,last)=FIN):=Zb (by rw[<- hE];exact(by have h:=hc.out;subst h;rw[Nat.sub_self];rfl));exact Ey
  have t1:((c:Int) == (cols:Int))=false:=beq_eq_false_iff_ne.2 Gk;have z0:decide (c=cols)=false:=Gu hc;by_cases hr:r=n
  case pos =>
   have t2:((r:Int) == (n:Int))=true:=beq_iff_eq.2 Gk;have x8:decide (r=n)=true:=Gv hr;replace hr:=Zb hr;have dI:Hid ((L2.map RZ.q,r,ng,last)=FIN):=Zb (by rw[<- hE];exact(Zlu (by rw[E.out];exact hr.out)).symm);exact Ey
  obtain⟨j,hj⟩:∃ j,cols-c=j+1:=⟨cols-c-1,by omega⟩;rw[hj]at hE aZ;have r7:c<cols:=Gk;have I:r<n:=Gk;have t2:((r:Int) == (n:Int))=false:=beq_eq_false_iff_ne.2 Gk;have x8:decide (r=n)=false:=Gu hr;have j4:Hid (r≠(L2.map RZ.q).length):=Zb (by rw[E.out];exact hr);replace hr:=Zb hr;replace hc:=Zb hc;replace hj:=Zb hj;have c1:wA.cell? ⟨gr,0,none⟩=some (.int .i64 r):=by rw[b1.cell];rfl
  obtain⟨ga,f6⟩:=Gz wA.heap.size;obtain⟨V,hV,c8,qa,kW,kB,sV⟩:=Zap 3 #[.int .i64 r] (Qc wA.heap.size wA) (Qb _);have B3:Hid (MatZ 158 30 V go L2):=Zb (eF.below c8);have C0:Hid (Wd V ln lA lk lc last):=Zb (bX.below c8);have v0:=b0.below c8 b0.lt;have v1:=b1.below c8 b1.lt;have v2:=b2.below c8 b2.lt;have v3:=b3.below c8 b3.lt;have r0:Hid (gl<ga):=Zb (by rw[<- f6];exact b3.lt);have s3:Hid (Kept (λk=>k=go \/ k ∈ L0.map RZ.g \/ k=gr \/ k=gn \/ k=gl) W0 V):=Zb (hK.below c8);have D0:Hid (ga<V.heap.size):=Zb (by rw[sV];omega);have p4:Hid (W0.heap.size<=ga):=Zb (by rw[<- f6];exact hK.size);rw[f6]at qa;replace f6:=Zb f6;replace v0:=Zb v0;replace v1:=Zb v1;replace v2:=Zb v2;replace v3:=Zb v3;replace hE:=Zb hE;replace aZ:=Zb aZ;replace dr:=Zb dr;replace aQ:=Zb aQ;clear eF bX hK b1 b2 b3 b0 kW kB sV c8;replace qa:=Zb qa;go_wp2_with fail;rw[f6.out];(try rw[hV]);clear hV c1 x0
  go_loopg [45] (n-r) (λk _ wr=>∃ q:Nat,q+k=n/\r<=q/\Blk wr ga 3 #[.int .i64 q]/\Hid (∀ i,r<=i->i<q->Zag (L2.map RZ.q) i c=0)/\Kept (λk=>k=ga) V wr)
  case atStart=>exact⟨r,by omega,Qb _,qa.out,Zb (λi h1 h2=>by omega),Qm _ _⟩
  case round =>
   obtain⟨q,D3,p5,d0,n8,a4⟩:=hrel;have C1:=r0.out;have a6:∀ k,k=ga->∃ t cs,Blk V k t cs/\NoLimb cs:=λk hk=>⟨_,_,(hk▸qa.out:Blk V k 3 #[.int .i64 r]),Ze0 (λx=>by simp)⟩;have w0:=a4.blk v0.out Gk;have d6:=a4.blk v1.out Gk;have d8:=a4.blk v2.out Gk;have e5:=a4.blk v3.out Gk;have b7:MatZ 158 30 wr go L2:=B3.out.keptG a4 (λh=>by have:=e4 go (.inl rfl);omega) (λs hs h=>by have:=e4 s.g (.inr (aQ.out _ (List.mem_map.2 ⟨s,hs,rfl⟩)));omega) a6;have e0:Wd wr ln lA lk lc last:=a4.wd C0.out a6;have o0:Hid (Kept (λk=>k=go \/ k ∈ L0.map RZ.g \/ k=gr \/ k=gn \/ k=gl) W0 wr):=Zb (s3.out.and a4 (λk hk h=>by have:=p4.out;omega));obtain⟨x0,-,-,-⟩:=w0.two;have cq:wr.cell? ⟨ga,0,none⟩=some (.int .i64 q):=by rw[d0.cell];rfl
   have zq:=d0.frozen 0;have c1:wr.cell? ⟨gr,0,none⟩=some (.int .i64 r):=by rw[d6.cell];rfl
   cases gk with
   | zero =>
    obtain rfl:q=n:=Gk;have t3:decide ((q:Int)<(q:Int))=false:=Gh;have t4:((q:Int) == (q:Int))=true:=Gh
    have hp:Zbf (λi=>Zag (L2.map RZ.q) i c == 0) (L2.map RZ.q).length (L2.map RZ.q).length r=q:=by
     rw[E.out];exact Zkf Gk p5 (Qb _) (λi h1 h2=>by rw[n8.out i h1 h2];rfl) (λh=>by omega)
    have dI:=Zb ((Zkq (f:=j) (ng:=ng) (last:=last) j4.out hp E.out.symm).symm.trans hE.out);have h7:=Zb (Zp3 aZ.out j4.out hp E.out.symm);have g7:Hid (cols-(c+1)=j):=Zb (by have:=hj.out;omega);replace hp:=Zb hp;replace b7:=Zb b7;replace e0:=Zb e0;replace d6:=Zb d6;replace d8:=Zb d8;replace e5:=Zb e5;clear a4 a6;go_wp2_with fail
    go_step3
    refine⟨rfl,?_⟩;refine⟨⟨c+1,r,ng,last,ln,lA,lk,lc,L2,Zkh rfl rfl rfl rfl rfl rfl rfl (by first|rfl|(show Value.int .i64 _=_;congr 1)) ⟨by omega,by omega,d6.out,d8.out,e5.out,e0.out,b7.out,dr.out,aQ.out,by rw[g7.out];exact dI.out,by rw[g7.out];exact h7.out,o0.out⟩⟩,?_⟩;simp[colOf];omega
   | succ gk' =>
    obtain rfl:gk'=n-(q+1):=Gk;have e7:q<n:=Gk;have t3:decide ((q:Int)<(n:Int))=true:=Gv Gk;have bq:(q:Int)<(n:Int):=Gk;obtain⟨x,hx⟩:=Zc8 (L:=L2) (i:=q) (by rw[dr.out];exact e7)
    have n0:x.q.length=m:=by
     have:=i6.out.1.1 q (by rw[E.out];exact e7);rw[QD,hx]at this;exact this
    obtain⟨cx,zx⟩:=b7.cell hx;obtain⟨fx,-⟩:=b7.row hx;rw[n0]at cx;have bc:(c:Int)<(m:Int):=Gk;obtain⟨n1,A1,k1,r8,p0,p1,i3⟩:=fx.at_ (i:=c) (by rw[n0];omega);have D2:k1<=4096:=i3.2.1;have j0:Zag (L2.map RZ.q) q c=x.q[c]?.getD 0:=by rw[Ziy,Zgn hx]
    rw[<- j0]at i3
    have i0:k1=0 ↔ Zag (L2.map RZ.q) q c=0:=by
     have h1:=i3.lim.len;have h2:=length_digits_pos (v:=(Zag (L2.map RZ.q) q c).natAbs);omega
    have hZ:=Zb (λW1=>Ztm n1 A1 k1 r8 W1 Gk ((k1:Int) == 0) rfl);by_cases hz:k1=0
    case pos =>
     have t4:((k1:Int) == 0)=true:=by simp[hz]
     rw[t4]at hZ;have j6:=i0.1 hz
     have q7:Hid (∀ i,r<=i->i<q+1->Zag (L2.map RZ.q) i c=0):=Zb (λi h1 h2=>by
      by_cases hi:i=q;rw[hi];exact j6;exact n8.out i h1 Gk)
     replace hz:=Zb hz;replace b7:=Zb b7;replace e0:=Zb e0;clear j6 i3 fx zx j0 n0 hx i0 d6 d8 e5;go_wp2_with fail;refine(hZ.out _).mono ?_;rintro e w5 ⟨rfl,o⟩;have i5:=Za o cq;have C9:=Zl o cq zq;have i2:=(d0.below o d0.lt).set_ 0 (.int .i64 ((q:Int)+1));have i1:=(a4.below o).set_ (p:=⟨ga,0,none⟩) (.inl rfl) (.int .i64 ((q:Int)+1));replace i2:=Zb i2;replace i1:=Zb i1;clear a4 d0 a6;go_wp2_with fail
     go_roundg (n-(q+1))
     case measure=>omega
     case rel=>exact⟨q+1,by omega,by omega,i2.out,q7,i1.out⟩
    have t4:((k1:Int) == 0)=false:=by simp;omega
    rw[t4]at hZ;have n7:Zag (L2.map RZ.q) q c≠0:=λe=>hz (i0.2 e);have t5:((q:Int) == (n:Int))=false:=beq_eq_false_iff_ne.2 Gk;have D5:decide (q=n)=false:=Gu Gk
    have hp:Zbf (λi=>Zag (L2.map RZ.q) i c == 0) (L2.map RZ.q).length (L2.map RZ.q).length r=q:=by
     rw[E.out];exact Zkf Gk p5 Gk (λi h1 h2=>by rw[n8.out i h1 h2];rfl) (λ_=>by simpa using n7)
    have dI:=Zb ((Zk4 (f:=j) (ng:=ng) (last:=last) j4.out hp (by rw[E.out];omega)).symm.trans hE.out);have h7:=Zb (Zp0 aZ.out j4.out hp (by rw[E.out];omega));obtain⟨L3,d7⟩:=Gz (Zae L2 q r);have g4:L3.map RZ.q=Zae (L2.map RZ.q) q r:=by rw[<- d7];exact Zje _ _ _ _
    have c0:Hid (L3.length=n):=Zb (by rw[<- d7,Zdz];exact dr.out);have k7:=Zb g4
    have e8:Hid (∀ i,i<n->(Zat L3 i).length=m):=Zb (λi hi=>by
     rw[Zi8,g4,Zdg (by rw[E.out];exact e7) (by rw[E.out];exact I)];exact i6.out.1.1 _ (by rw[E.out];exact Zgr e7 I hi))
    have i7:Hid (∀ (i t:Nat),((Zat L3 i)[t]?.getD 0).natAbs<pw 200):=Zb (λi t=>by
     rw[<- Ziy,g4,Zg1 (by rw[E.out];exact e7) (by rw[E.out];exact I)];exact i6.out.1.2 _ _)
    have r2:Hid ((Zat L3 r)[c]?.getD 0=Zag (L2.map RZ.q) q c):=Zb (by
     rw[<- Ziy,g4,Zg1 (by rw[E.out];exact e7) (by rw[E.out];exact I),Zq1])
    have j1:Hid (∀ g ∈ L3.map RZ.g,g ∈ L0.map RZ.g):=Zb (λg hg=>by
     rw[<- d7,Zje]at hg;exact aQ.out g (Zhs _ _ _ _ hg))
    have j2:=Zb (λ(W1:World) (h1:Blk W1 gg 167 #[.slice (some ⟨go,0,none⟩) n cap,vby]) (h2:Blk W1 gr 3 #[.int .i64 r]) (h3:Blk W1 ga 3 #[.int .i64 q]) (h4:Blk W1 gn 4 #[.bool ng]) (h5:MatZ 158 30 W1 go L2) (a3:q≠r) =>
     Zwo gg gr ga gn go n cap q r ng vby L2 W1 h1 h2 h3 h4 h5 dr.out e7 I a3 (by have:=e4 go (.inl rfl);omega))
    rw[d7]at j2;replace hz:=Zb hz;replace n7:=Zb n7;replace hp:=Zb hp;replace i0:=Zb i0;replace j0:=Zb j0;have br:(r:Int)<(n:Int):=Gk;clear g4 fx i3;go_wp2_with fail;refine(hZ.out _).mono ?_;rintro e w5 ⟨rfl,o⟩;clear p0 p1 cx zx;have y0:=w0.below o w0.lt;have y1:=d6.below o d6.lt;have y2:=d8.below o d8.lt;have y3:=e5.below o e5.lt;have ya:=d0.below o d0.lt;have a2:=b7.below o;have f7:=e0.below o;have j5:Hid (Kept (λk=>k=go \/ k ∈ L0.map RZ.g \/ k=gr \/ k=gn \/ k=gl) W0 w5):=Zb (o0.out.below o);have n2:=Za o x0;have i5:=Za o cq;have n6:=Za o c1;clear x0 cq c1 w0 d6 d8 e5 d0 b7 e0 a4 a6 o0 zq o;rcases Classical.em (q=r)with a3|a3
    all_goals
     first
     | have j6:q=r:=a3
       have t6:((q:Int) == (r:Int))=true:=beq_iff_eq.2 Gk;have y5:((q:Int) != (r:Int))=false:=by rw[bne,t6];rfl
       have t7:decide (q=r)=true:=Gv a3;obtain⟨ngz,Y⟩:∃ b:Bool,b=ng:=⟨_,rfl⟩;rw[<- Y]at y2;have r3:Hid ((ng != decide (q≠r))=ngz):=Zb (by rw[Y,Gu (by omega:¬ q≠r)];cases ng <;> rfl);replace Y:=Zb Y;have p8:L2=L3:=by rw[<- d7,a3];exact(Zqh _ _).symm
       rw[p8]at a2;clear p8 d7 j2 j6;replace a3:=Zb a3;obtain⟨wz,n9⟩:∃ x:World,x=w5:=⟨_,rfl⟩;subst n9
     | have t6:((q:Int) == (r:Int))=false:=beq_eq_false_iff_ne.2 Gk
       have y5:((q:Int) != (r:Int))=true:=by rw[bne,t6];rfl
       have t7:decide (q=r)=false:=Gu a3;obtain⟨ngz,Y⟩:∃ b:Bool,b=!ng:=⟨_,rfl⟩;have r3:Hid ((ng != decide (q≠r))=ngz):=Zb (by rw[Y,Gv (by omega:q≠r)];cases ng <;> rfl);have hC:=Zb (j2.out w5 y0 y1 ya y2 a2 a3)
       have g6:∀ k,(k=go \/ k=gn)->∃ t cs,Blk w5 k t cs/\NoLimb cs:=λk hk=>by
        rcases hk with rfl|rfl;exact a2.boxes _ (.inl rfl);exact⟨_,_,y2,Ze0 (λx=>by simp)⟩
       replace g6:=Zb g6;replace y0:=Zb y0;replace y1:=Zb y1;replace y3:=Zb y3;replace f7:=Zb f7;clear a2 ya y2 d7 j2;replace a3:=Zb a3;replace Y:=Zb Y;go_wp2_with fail;refine hC.out.mono ?_;rintro e w6 ⟨rfl,p9,y2,d5⟩;have C2:=e4 go (.inl rfl);have a2:=p9;replace y0:=d5.blk y0.out Gk;replace y1:=d5.blk y1.out Gk;replace y3:=d5.blk y3.out Gk;replace f7:=d5.wd f7.out g6.out;replace j5:Hid (Kept (λk=>k=go \/ k ∈ L0.map RZ.g \/ k=gr \/ k=gn \/ k=gl) W0 w6):=Zb (j5.out.and d5 (λk _ h=>by rcases h with h|h <;> simp[h]));clear p9 d5 hC n2 n6 i5;have ya:True:=trivial;have i5:True:=trivial;obtain⟨n2,-,-,-⟩:=y0.two;have n6:w6.cell? ⟨gr,0,none⟩=some (.int .i64 r):=by rw[y1.cell];rfl
       rw[<- Y.out]at y2;obtain⟨wz,n9⟩:∃ x:World,x=w6:=⟨_,rfl⟩;subst n9
    all_goals
     obtain⟨y,hy⟩:=Zc8 (L:=L3) (i:=r) (by rw[c0.out];exact I);have o6:y.q.length=m:=by rw[<- Zgn hy];exact e8.out r I
     obtain⟨cy,-⟩:=a2.cell hy;obtain⟨fy,-⟩:=a2.row hy;rw[o6]at cy;obtain⟨pn,pA,pk,pc,p0,p1,m3⟩:=fy.at_ (i:=c) (by rw[o6];omega);rw[<- Zgn hy]at m3;obtain⟨gp,h6⟩:=Gz wz.heap.size;obtain⟨Wp,o9,b6,qp,kW,kB,sP⟩:=Zap 30 #[.bool pn,.slice pA pk pc] (Qc wz.heap.size wz) (Qb _);have m4:Hid (MatZ 158 30 Wp go L3):=Zb (a2.below b6);have B6:Hid (Wd Wp ln lA lk lc last):=Zb (f7.below b6);have s7:Hid (Wd Wp pn pA pk pc ((Zat L3 r)[c]?.getD 0)):=Zb (m3.below b6);have p7:Hid (Blk Wp gg 167 #[.slice (some ⟨go,0,none⟩) n cap,vby]):=Zb (y0.below b6 y0.lt);have z6:Hid (Blk Wp gr 3 #[.int .i64 r]):=Zb (y1.below b6 y1.lt);have x3:Hid (Blk Wp gn 4 #[.bool ngz]):=Zb (y2.below b6 y2.lt);have y7:Hid (Blk Wp gl 30 #[.bool ln,.slice lA lk lc]):=Zb (y3.below b6 y3.lt);have x6:Hid (Kept (λk=>k=go \/ k ∈ L0.map RZ.g \/ k=gr \/ k=gn \/ k=gl) W0 Wp):=Zb (j5.out.below b6);have k9:Hid (gl<gp):=Zb (by rw[<- h6];exact y3.lt);rw[h6]at qp;have v9:=Zb qp;replace h6:=Zb h6;have J:Hid (∀ k,gg<=k->k ∉ L3.map RZ.g):=Zb (λk hk hm=>by have:=e4 k (.inr (j1.out k hm));omega);obtain⟨s4,-,-,-⟩:=p7.out.two;clear a2 f7 y0 y1 y2 y3 ya fy m3 qp kW kB sP j5 b6;go_wp2_with fail;(try rw[h6.out]);(try rw[o9]);clear o9 cy p0 p1 n2 i5 n6 s4;have g5:Hid (∀ k,k ∈ L3.map RZ.g->∃ t cs,Blk Wp k t cs/\NoLimb cs):=Zb (λk hk=>m4.out.boxes k (.inr hk));have C4:Hid (go ∉ L3.map RZ.g):=Zb (List.nodup_cons.1 m4.out.2.2).1
     go_loopg [72] n (λk iv wr=>∃ (i:Nat) (L4:List RZ),i+k=n/\iv=.int .i64 i/\MatZ 158 30 wr go L4/\Hid (L4.length=n)/\Hid (L4.map RZ.g=L3.map RZ.g)/\Hid (ClzTo L3 L4 r c last i)/\Kept (λk=>k ∈ L3.map RZ.g) Wp wr)
     case atStart=>exact⟨0,L3,by omega,rfl,m4.out,c0,Zb rfl,Zb (λj hj=>by rw[Gx (Or.inr (QF j))]),Qm _ _⟩
     case round =>
      obtain⟨i,L4,D4,rfl,a9,b4,f9,i4,O⟩:=hrel;have b0:=O.blk p7.out (J.out gg (Qb _));have b1:=O.blk z6.out (J.out gr Gk);have b2:=O.blk x3.out (J.out gn Gk);have b3:=O.blk y7.out (J.out gl Gk);have bp:=O.blk v9.out (J.out gp (by have:=k9.out;omega));have c7:Wd wr pn pA pk pc ((Zat L3 r)[c]?.getD 0):=O.wd s7.out g5.out;have bX:Wd wr ln lA lk lc last:=O.wd B6.out g5.out;obtain⟨x0,-,-,-⟩:=b0.two;have c1:wr.cell? ⟨gr,0,none⟩=some (.int .i64 r):=by rw[b1.cell];rfl
      have z1:=b1.frozen 0;obtain⟨l0,l1,w9,r9⟩:=b3.two;obtain⟨s0,s1,w2,x4⟩:=bp.two;cases gk with
      | zero =>
       obtain rfl:i=n:=Gk;have t8:decide ((i:Int)<(i:Int))=false:=Gh;have m9:L4.map RZ.q=Zde (L3.map RZ.q) r c last:=ClzTo.done (by rw[c0.out];exact i4.out) (by rw[b4.out,c0.out]);obtain⟨X,hX,cj,q4,st⟩:=Zbt (B:=gl) pn pA pk pc (Qc gl wr) (Qb gl) b3;have m1:Blk X gr 3 #[.int .i64 r]:=by rw[<- hX];exact(b1.far d3 _).far d3 _
       have m2:Blk X gn 4 #[.bool ngz]:=by rw[<- hX];exact(b2.far d4 _).far d4 _
       have D1:X.cell? ⟨gr,0,none⟩=some (.int .i64 r):=by rw[m1.cell];rfl
       have C8:=m1.frozen 0
       have dl:Kept (λk=>k=gl \/ k=gr) wr (X.setCell ⟨gr,0,none⟩ (.int .i64 ((r:Int)+1))):=by
        rw[<- hX];exact(((Qm _ wr).set_ (p:=⟨gl,0,none⟩) (.inl (.inl rfl)) _).set_ (p:=⟨gl,1,none⟩) (.inl (.inl rfl)) _).set_ (p:=⟨gr,0,none⟩) (.inl (.inr rfl)) _
       have C:∀ k,(k=gl \/ k=gr)->∃ t cs,Blk wr k t cs/\NoLimb cs:=λk hk=>by
        rcases hk with rfl|rfl;exact⟨_,_,b3,Zfk _ _ _ _⟩;exact⟨_,_,b1,Ze0 (λx=>by simp)⟩
       have dZ:Hid (MatZ 158 30 (X.setCell ⟨gr,0,none⟩ (.int .i64 ((r:Int)+1))) go L4):=Zb (a9.keptG dl (λh=>by have:=e4 go (.inl rfl);omega) (λs hs h=>by
        have h1:s.g ∈ L3.map RZ.g:=by rw[<- f9.out];exact List.mem_map.2 ⟨s,hs,rfl⟩
        have:=e4 s.g (.inr (j1.out _ h1));omega) C)
       have eb:Hid (Wd (X.setCell ⟨gr,0,none⟩ (.int .i64 ((r:Int)+1))) pn pA pk pc ((Zat L3 r)[c]?.getD 0)):=Zb (dl.wd c7 C);have B7:Hid (Blk (X.setCell ⟨gr,0,none⟩ (.int .i64 ((r:Int)+1))) gr 3 #[.int .i64 ((r:Int)+1)]):=Zb (m1.set_ 0 _);have w3:Hid (Blk (X.setCell ⟨gr,0,none⟩ (.int .i64 ((r:Int)+1))) gn 4 #[.bool ngz]):=Zb (m2.far (p:=⟨gr,0,none⟩) (Ne.symm d1) _);have s9:Hid (Blk (X.setCell ⟨gr,0,none⟩ (.int .i64 ((r:Int)+1))) gl 30 #[.bool pn,.slice pA pk pc]):=Zb (q4.far (p:=⟨gr,0,none⟩) (Ne.symm d3) _);have w8:Hid (Kept (λk=>k=go \/ k ∈ L0.map RZ.g \/ k=gr \/ k=gn \/ k=gl) W0 (X.setCell ⟨gr,0,none⟩ (.int .i64 ((r:Int)+1)))):=Zb ((x6.out.and O (λk _ h=>.inr (.inl (j1.out k h)))).and dl (λk _ h=>by rcases h with h|h <;> simp[h]));have A6:Hid (Zaw j (c+1) (r+1) (L4.map RZ.q) ngz ((Zat L3 r)[c]?.getD 0)=FIN):=Zb (by rw[m9,k7.out,r2.out,<- r3.out];exact dI.out);have o5:Hid (okZ (pw 200) m j (c+1) (r+1) (L4.map RZ.q) ((Zat L3 r)[c]?.getD 0)):=Zb (by rw[m9,k7.out,r2.out];exact h7.out);have g7:Hid (cols-(c+1)=j):=Zb (by have:=hj.out;omega);have B9:Hid (∀ g ∈ L4.map RZ.g,g ∈ L0.map RZ.g):=Zb (λg hg=>j1.out g (by rw[<- f9.out];exact hg));clear a9 O b0 b1 b2 b3 bp c7 bX q4 m1 m2 dl C m9 st cj;go_wp2_with fail;(try rw[hX]);go_wp2_with fail
       go_step3
       refine⟨rfl,?_⟩;refine⟨⟨c+1,r+1,ngz,_,pn,pA,pk,pc,L4,Zkh rfl rfl rfl rfl rfl rfl rfl (by first|rfl|(show Value.int .i64 _=_;congr 1)) ⟨by omega,by omega,B7.out,w3.out,s9.out,eb.out,dZ.out,b4.out,B9.out,by rw[g7.out];exact A6.out,by rw[g7.out];exact o5.out,w8.out⟩⟩,?_⟩;simp[colOf];omega
      | succ gk' =>
       obtain rfl:gk'=n-(i+1):=Gk;have a5:i<n:=Gk;have t8:decide ((i:Int)<(n:Int))=true:=Gv Gk;have bi:(i:Int)<(n:Int):=Gk;obtain⟨ri,f8⟩:=Zc8 (L:=L4) (i:=i) (by rw[b4.out];exact a5);obtain⟨ci,zi⟩:=a9.cell f8;obtain⟨rr,i9⟩:=Zc8 (L:=L4) (i:=r) (by rw[b4.out];exact I);obtain⟨cr,zr⟩:=a9.cell i9
       have l2:rr.q=Zat L3 r:=by
        have:=i4.out r (by rw[c0.out];exact I);rw[Zgn i9,Gx (Qz (Qb r))]at this;exact this
       have m7:rr.q.length=m:=by rw[l2];exact e8.out r I
       rw[m7]at cr;by_cases b8:i<=r
       case pos =>
        have t9:decide ((i:Int)<=(r:Int))=true:=Gv Gk;have z9:decide (i<=r)=true:=Gv b8;have q5:Hid (ClzTo L3 L4 r c last (i+1)):=Zb (i4.out.pass b8);replace a9:=Zb a9;replace O:=Zb O;replace b8:=Zb b8;clear b0 b1 b2 b3 bp c7 bX;go_wp2_with fail
        go_roundg (n-(i+1))
        case measure=>omega
        case rel=>exact⟨i+1,L4,by omega,by go_num,a9.out,b4,f9,q5,O.out⟩
       have t9:decide ((i:Int)<=(r:Int))=false:=Gu Gk;have z9:decide (i<=r)=false:=Gu b8
       have m6:ri.q=Zat L3 i:=by
        have:=i4.out i (by rw[c0.out];exact a5);rw[Zgn f8,Gx (Or.inr (Qb i))]at this;exact this
       have m5:ri.q.length=m:=by rw[m6];exact e8.out i a5
       rw[m5]at ci;obtain⟨fi,-⟩:=a9.row f8;obtain⟨h8,hA,hk,g8,p0,p1,g2⟩:=fi.at_ (i:=c) (by rw[m5];omega);rw[m6]at g2;obtain⟨gh,g9⟩:=Gz wr.heap.size;obtain⟨Wh,r4,a8,qh,kW,kB,sh⟩:=Zap 30 #[.bool h8,.slice hA hk g8] (Qc wr.heap.size wr) (Qb _);have r5:Hid (MatZ 158 30 Wh go L4):=Zb (a9.below a8);have p6:Hid (Wd Wh h8 hA hk g8 ((Zat L3 i)[c]?.getD 0)):=Zb (g2.below a8);have o7:Hid (Wd Wh pn pA pk pc ((Zat L3 r)[c]?.getD 0)):=Zb (c7.below a8);have r1:Hid (Wd Wh ln lA lk lc last):=Zb (bX.below a8);have s8:Hid (Blk Wh gg 167 #[.slice (some ⟨go,0,none⟩) n cap,vby]):=Zb (b0.below a8 b0.lt);have y8:Hid (Blk Wh gr 3 #[.int .i64 r]):=Zb (b1.below a8 b1.lt);have y6:Hid (Blk Wh gl 30 #[.bool ln,.slice lA lk lc]):=Zb (b3.below a8 b3.lt);have bph:Hid (Blk Wh gp 30 #[.bool pn,.slice pA pk pc]):=Zb (bp.below a8 bp.lt);have A7:Hid (Kept (λk=>k ∈ L3.map RZ.g) Wp Wh):=Zb (O.below a8);have o8:Hid (gl<gh):=Zb (by rw[<- g9];exact b3.lt);rw[g9]at qh;replace qh:=Zb qh;replace g9:=Zb g9;have e6:Hid (∀ k,k ∈ L3.map RZ.g->∃ t cs,Blk Wh k t cs/\NoLimb cs):=Zb (λk hk=>r5.out.boxes k (.inr (by rw[f9.out];exact hk)));replace b8:=Zb b8;clear a9 O b0 b1 b2 b3 bp c7 bX g2 fi kW kB sh a8 zi zr cr;go_wp2_with fail;(try rw[g9.out]);(try rw[r4]);clear r4 p0 p1 ci x0 c1 z1 l0 l1 w9 r9 s0 s1 w2 x4
       go_loopg [86] m (λk iv wr=>∃ (t:Nat) (q3:List Int),t+k=m/\iv=.int .i64 t/\MatZ 158 30 wr go (L4.set i ⟨ri.g,q3⟩)/\Hid (q3.length=m)/\Hid (∀ s,q3[s]?.getD 0=if s<t then Qw ((Zat L3 i)[s]?.getD 0*(Zat L3 r)[c]?.getD 0-(Zat L3 i)[c]?.getD 0*(Zat L3 r)[s]?.getD 0) last else (Zat L3 i)[s]?.getD 0)/\Kept (λk=>k ∈ L3.map RZ.g) Wh wr)
       case atStart =>
        refine⟨0,ri.q,by omega,rfl,?_,Zb m5,Zb (λs=>by rw[Gw (QH s),m6]),Qm _ _⟩
        have e:L4.set i ⟨ri.g,ri.q⟩=L4:=by
         apply Qu;intro t;rw[Qe]
         split
         rename_i h;subst h;rw[Gx (by rw[b4.out];exact a5),f8];rfl
        rw[e];exact r5.out
       case round =>
        obtain⟨t,q3,C6,rfl,a7,c6,m8,U⟩:=hrel;cases gk with
        | zero =>
         obtain rfl:t=m:=Gk;have B4:decide ((t:Int)<(t:Int))=false:=Gh
         have d9:Hid ((L4.set i ⟨ri.g,q3⟩).length=n/\(L4.set i ⟨ri.g,q3⟩).map RZ.g=L3.map RZ.g/\ClzTo L3 (L4.set i ⟨ri.g,q3⟩) r c last (i+1)):=Zb (by
          refine⟨by rw[Qr];exact b4.out,?_,?_⟩;rw[Zod (s:=⟨ri.g,q3⟩) f8 rfl];exact f9.out;have l7:=b8.out;refine i4.out.step (by rw[b4.out,c0.out]) (by rw[c0.out];exact a5) Gk ?_;refine rowZ_eq (by rw[c6.out,e8.out i a5]) (λs=>?_);rw[m8.out s,e8.out i a5])
         have d5:Hid (Kept (λk=>k ∈ L3.map RZ.g) Wp wr):=Zb (A7.out.trans U);replace a7:=Zb a7;clear U;go_wp2_with fail
         go_roundg (n-(i+1))
         case measure=>omega
         case rel=>exact⟨i+1,_,by omega,by go_num,a7.out,Zb d9.out.1,Zb d9.out.2.1,Zb d9.out.2.2,d5.out⟩
        | succ gk3 =>
         obtain rfl:gk3=m-(t+1):=Gk;have i8:t<m:=Gk;have B4:decide ((t:Int)<(m:Int))=true:=Gv Gk;have bt:(t:Int)<(m:Int):=Gk;have b0:=U.blk s8.out (J.out gg (Qb _));have b1:=U.blk y8.out (J.out gr Gk);have b3:=U.blk y6.out (J.out gl Gk);have bp:=U.blk bph.out (J.out gp (by have:=k9.out;omega));have bh:=U.blk qh.out (J.out gh (by have:=o8.out;omega));have c7:Wd wr pn pA pk pc ((Zat L3 r)[c]?.getD 0):=U.wd o7.out e6.out;have g2:Wd wr h8 hA hk g8 ((Zat L3 i)[c]?.getD 0):=U.wd p6.out e6.out;have bX:Wd wr ln lA lk lc last:=U.wd r1.out e6.out;have l7:=b8.out;obtain⟨cr,-⟩:=a7.cell (i:=r) (r:=rr) (by rw[Qe,Gw Gk];exact i9);rw[m7]at cr;obtain⟨f3,-⟩:=a7.row (i:=i) (r:=⟨ri.g,q3⟩) (by rw[Qe,Gx rfl,Gx (by rw[b4.out];exact a5)]);obtain⟨f4,-⟩:=a7.row (i:=r) (r:=rr) (by rw[Qe,Gw Gk];exact i9);obtain⟨n4,A4,k4,c4,q8,p2,n3⟩:=f4.at_ (i:=t) (by rw[m7];exact i8);rw[l2]at n3;obtain⟨n5,A5,k5,c5,u0,u1,l9⟩:=f3.at_ (i:=t) (by rw[show RZ.q ⟨ri.g,q3⟩=q3 from rfl,c6.out];exact i8)
         have k6:q3[t]?.getD 0=(Zat L3 i)[t]?.getD 0:=by
          have h1:=m8.out t;rw[Gw Gk]at h1;exact h1
         simp only[k6]at l9;have p3:=f3.frozen (t*2);have o4:=f3.frozen (t*2+1);obtain⟨x0,-,-,-⟩:=b0.two;have c1:wr.cell? ⟨gr,0,none⟩=some (.int .i64 r):=by rw[b1.cell];rfl
         obtain⟨l0,l1,-,-⟩:=b3.two;obtain⟨s0,s1,-,-⟩:=bp.two;obtain⟨h0,h1,-,-⟩:=bh.two;have j7:((Zat L3 i)[t]?.getD 0*(Zat L3 r)[c]?.getD 0).natAbs<pw 400:=Zh5 (i7.out i t) (i7.out r c);have j8:((Zat L3 i)[c]?.getD 0*(Zat L3 r)[t]?.getD 0).natAbs<pw 400:=Zh5 (i7.out i c) (i7.out r t);have A9:Hid (((Zat L3 i)[t]?.getD 0*(Zat L3 r)[c]?.getD 0-(Zat L3 i)[c]?.getD 0*(Zat L3 r)[t]?.getD 0).natAbs<pw 4096):=Zb (Qd (Zqz j7 j8) (Zbm Gi));replace j7:=Zb (Qd j7 (Zbm (by decide:400<=4096)));replace j8:=Zb (Qd j8 (Zbm (by decide:400<=4096)));have B1:Hid (last≠0):=Zb i6.out.2.1;replace a7:=Zb a7;replace U:=Zb U;clear f4 f3 b0 b1 b3 bp bh k6 l7;go_wp2_with fail
         have a1:Hid (∀ wx,Below wr.heap.size wr wx->wx.cell? ⟨ri.g,t*2,none⟩=some (.bool n5)/\wx.cell? ⟨ri.g,t*2+1,none⟩=some (.slice A5 k5 c5)/\wx.cell? ⟨gp,0,none⟩=some (.bool pn)/\wx.cell? ⟨gp,1,none⟩=some (.slice pA pk pc)/\wx.cell? ⟨gh,0,none⟩=some (.bool h8)/\wx.cell? ⟨gh,1,none⟩=some (.slice hA hk g8)/\wx.cell? ⟨gg,0,none⟩=some (.slice (some ⟨go,0,none⟩) n cap)/\wx.cell? ⟨gr,0,none⟩=some (.int .i64 r)/\wx.cell? ⟨go,r,none⟩=some (.slice (some ⟨rr.g,0,none⟩) m m)/\wx.cell? ⟨rr.g,t*2,none⟩=some (.bool n4)/\wx.cell? ⟨rr.g,t*2+1,none⟩=some (.slice A4 k4 c4)/\wx.cell? ⟨gl,0,none⟩=some (.bool ln)/\wx.cell? ⟨gl,1,none⟩=some (.slice lA lk lc)):=Zb (λwx C=>⟨Za C u0,Za C u1,Za C s0,Za C s1,Za C h0,Za C h1,Za C x0,Za C c1,Za C cr,Za C q8,Za C p2,Za C l0,Za C l1⟩);have c9:Below wr.heap.size wr wr.drew:=Zg (Qc _ _) 1;refine wp_heldS [22] hmx a1 c9 (λhxs9=>?_);refine Zfm 2 [0,1] rfl Gj (a1.out _ c9) ?_
         iterate 2 (refine tk1 (v:=?_) rfl (Qz ⟨by kernel_rfl,?_⟩) ?_;rotate_left;(· intro W2 _;go_simp;try with_reducible rfl);try simp only[Qa,Zf6,Zfl,Zfx,Gr,Gq,Gp])
         refine tk0 ?_;refine Zin 15 [2,3,4,5,6,8,9,10,11,12,13,14,15,16,19] rfl Gj (a1.out _ c9) ?_
         iterate 15 (refine tk1 (v:=?_) rfl (Qz ⟨by kernel_rfl,?_⟩) ?_;rotate_left;(· intro W2 hSw;(try dsimp only at hSw);go_simp;try with_reducible rfl);try simp only[Qa,Zf6,Zfl,Zfx,Gr,Gq,Gp])
         refine tk0 ?_;refine wpAnyL_o 7 λK hK=>?_;go_simp;refine(Zhd n5 pn A5 pA k5 c5 pk pc _ _ wr.drew (l9.below c9) (c7.below c9) j7.out).mono ?_;rintro e s6 ⟨l5,v7,s2,B8,w4,rfl,k0⟩;have b5:=Gs c9 l5;refine hK.out _ _ (λ_=>a1.out _ b5) ?_;clear hK K
         try simp only[Qa,Zf6,Zfl,Zfx]
         refine wpAnyL_o 17 λK hK=>?_;go_simp;refine(Zhd h8 n4 hA A4 hk g8 k4 c4 _ _ s6 (g2.below b5) (n3.below b5) j8.out).mono ?_;rintro e v6 ⟨h9,v8,A0,v4,y9,rfl,k8⟩;have e9:=Gs b5 h9;refine hK.out _ _ (λ_=>a1.out _ e9) ?_;clear hK K
         try simp only[Qa,Zf6,Zfl,Zfx]
         refine wpAnyL_o 18 λK hK=>?_;go_simp;refine(lsub_ok v7 v8 s2 A0 B8 w4 v4 y9 _ _ v6 (k0.below h9) k8 A9.out).mono ?_;rintro e t0 ⟨j9,v5,w7,A3,A8,rfl,l4⟩;have b9:=Gs e9 j9;refine hK.out _ _ (λ_=>a1.out _ b9) ?_;clear hK K
         try simp only[Qa,Zf6,Zfl,Zfx]
         refine wpAnyL_o 20 λK hK=>?_;go_simp;refine(Znw v5 ln w7 lA A3 A8 lk lc _ _ t0 l4 (bX.below b9) B1.out).mono ?_;rintro e x7 ⟨l3,s5,z8,B2,x5,rfl,l6⟩;have a0:=Gs b9 l3;refine hK.out _ _ (λ_=>a1.out _ a0) ?_;clear hK K
         try simp only[Qa,Zf6,Zfl,Zfx]
         refine Zfm 1 [21] rfl Gj (a1.out _ a0) ?_
         (refine tk1 (v:=?_) rfl (Qz ⟨by kernel_rfl,?_⟩) ?_;rotate_left;(· intro W2 _;go_simp;try with_reducible rfl);try simp only[Qa,Zf6,Zfl,Zfx,Gr,Gq,Gp])
         refine tk0 ?_;have a2:=a7.out.below a0;obtain⟨Z9,j3⟩:∃ W,(x7.setCell ⟨ri.g,t*2,none⟩ (.bool s5)).setCell ⟨ri.g,t*2+1,none⟩ (.slice z8 B2 x5)=W:=⟨_,rfl⟩;have o3:ri.g ∈ L3.map RZ.g:=by rw[<- f9.out];exact List.mem_map.2 ⟨ri,List.mem_of_getElem? f8,rfl⟩
         have z7:Hid (Kept (λk=>k ∈ L3.map RZ.g) Wh Z9):=Zb (by rw[<- j3];exact((U.out.below a0).set_ (p:=⟨ri.g,t*2,none⟩) (.inl o3) _).set_ (p:=⟨ri.g,t*2+1,none⟩) (.inl o3) _)
         have A2:Hid (MatZ 158 30 Z9 go (L4.set i ⟨ri.g,q3.set t (Qw ((Zat L3 i)[t]?.getD 0*(Zat L3 r)[c]?.getD 0-(Zat L3 i)[c]?.getD 0*(Zat L3 r)[t]?.getD 0) last)⟩)):=Zb (by
          have h1:=a2.set_ (i:=i) (r:=⟨ri.g,q3⟩) (by rw[Qe,Gx rfl,Gx (by rw[b4.out];exact a5)]) (k:=t) (by rw[show RZ.q ⟨ri.g,q3⟩=q3 from rfl,c6.out];exact i8) l6;rw[List.set_set]at h1;rw[<- j3];exact h1)
         have f0:=Zl a0 u0 p3;have f1:=Zl a0 u1 o4;have g0:=Za a0 u0;have g1:=Za a0 u1;clear a2;refine Zr (i:=22) rfl Gj Gj (λK hK=>?_);go_simp;(try rw[j3]);refine hK.out _ _ ?_;clear hK K
         try simp only[Qa,Zf6,Zfl,Zfx]
         refine wpAnyL_fin ?_;clear j3 f0 f1 g0 g1 l5 h9 j9 l3 c9 b5 e9 b9 a0 a1 hxs9 u0 u1 p3 o4 q8 p2 s0 s1 h0 h1 x0 c1 cr l0 l1 k0 k8 l4 l6 l9 n3 a7 U c7 g2 bX;go_wp2_with fail
         go_roundg (m-(t+1))
         case measure=>omega
         case rel=>exact⟨t+1,_,by omega,by go_num,A2.out,Zb (by rw[Qr];exact c6.out),Zb (Zur (by rw[c6.out,e8.out i a5]) (by rw[e8.out i a5];exact i8) rfl m8.out),z7.out⟩
theorem Zeq{P:Program}{ops:Array Oper}{Q:Exit->Act->World->Prop}{md:Region.Mode}{L:List Nat}{S:World->Prop}{i j:Nat}{oi oj:Oper}{fuel:Nat}{listed:Array Bool}{a:Act}{w:World}(hi:ops[i]?=some oi)(hj:ops[j]?=some oj)(hr:Region.ready md ops listed=[i,j])
    (h1:∀ K':Act->World->Prop,Shut (∀ a w,(Zb4 L (listed.setIfInBounds i true)=true->S w)->Zu P md ops Q L S fuel (listed.setIfInBounds i true) a w->K' a w)->if Region.wanted oi (yielded ops a.tmps)=true then Oper.wp P oi a w K' Q else K' (a.put oi.dst undef) w)
    (h2:∀ K':Act->World->Prop,Shut (∀ a w,(Zb4 L (listed.setIfInBounds j true)=true->S w)->Zu P md ops Q L S fuel (listed.setIfInBounds j true) a w->K' a w)->if Region.wanted oj (yielded ops a.tmps)=true then Oper.wp P oj a w K' Q else K' (a.put oj.dst undef) w) :
    Zu P md ops Q L S (fuel+1) listed a w:=
 ⟨(λh0=>by rw[h0]at hr;cases hr),λk hk=>by
  rw[hr]at hk;rcases List.mem_cons.1 hk with e|e;subst e;exact wpOp_step hi (λK' hK=>h1 K' (λa w hS hW=>hK a w ⟨hS,hW⟩));rw[Qi]at e;subst e;exact wpOp_step hj (λK' hK=>h2 K' (λa w hS hW=>hK a w ⟨hS,hW⟩))⟩
section
variable{P:Program}(w:World)
theorem Zjz(base:Nat)(t ty e:TypeId)(i:TypeInfo)(ht:P.underlying t=some (.slice e))(hi:P.info? e=some i)(hz:i.zero=some (.agg #[.bool false,.slice none 0 0]))
    (hs:i.size=2) (hby:i.bytes=32) (v:Value) (es:List WE) (ah:RowW e w base v es)
    (B:Nat) (A:Option Addr) (m c:Nat) (fs:List WE) (hr:Reads w B 2 A m (Zak fs)) (hm:fs.length=m) (h63:es.length+m<=1000) (hbase:base<=w.heap.size) :
    ∃ v' w',(Builtin.append_ #[t,t] ty #[v,.slice A m c]).run P w=.ok v' w'/\RowW e w' base v' (es++fs)/\w.grownBy w' v.ownBlock/\(v'.ownBlock=v.ownBlock \/ ∀ k,v'.ownBlock=some k->w.heap.size<=k):=by
 rcases Nat.eq_zero_or_pos m with h0|h0
 ·subst h0
  obtain rfl:fs=[]:=List.eq_nil_of_length_eq_zero hm;rw[List.append_nil];rcases A with _|ad;exact⟨v,w,Zce w base t ty e i 2 ht hi v _ _ ah.own c,ah,World.grownBy.refl w _,.inl rfl⟩;exact Ee
 obtain⟨ad,rfl,_,hc⟩:=hr.2 h0;have hl:(Zak fs).length=m*i.size:=by rw[Za5,hm,hs]
 have C:es.length*i.size=(Zak es).length:=by rw[Za5,hs]
 rcases ah with ⟨rfl,rfl⟩|⟨g,sp,rfl,h2,h3,h4⟩
 ·have f:=run_append_nil (P:=P) w t ty e i _ ht hi hz ad m c (Zak fs) hl hc h0 Gk (by rw[hby];omega)
  have h:=grownCap_ge w m 0 e;have o:=grownCap_le_maxLen w m 0 e (by unfold maxLen;simp only[List.length_nil]at h63;omega);refine⟨_,_,f,.inr ⟨w.heap.size,grownCap w m 0 e-m,?_,hbase,?_,?_⟩,⟨rfl,rfl,rfl,by simp,λk hk _=>Below.heap_alloc w.drew _ k hk⟩,.inr (λk hk=>by first|(simp[Value.ownBlock]at hk;omega)|(cases hk;exact Qb _))⟩;rw[QI,hm,Qn h];rw[QI,hm,Qn h];exact o;have:=heap_alloc_new w.drew (.cells ((Zak fs).toArray++Qp (Value.agg #[.bool false,.slice none 0 0]).cells (grownCap w m 0 e-m)) e);unfold Blk;refine this.trans ?_;congr 1
  have hx:(Zak fs).toArray++Qp (Value.agg #[.bool false,.slice none 0 0]).cells (grownCap w m 0 e-m)=Zbj ([]++fs++Qg (grownCap w m 0 e-m) Zck):=by
   apply Array.toList_inj.1;rw[Qs,show (Value.agg #[.bool false,.slice none 0 0]).cells=#[.bool false,.slice none 0 0] from rfl,Zhk];simp[Zbj,Zcp]
  rw[hx]
 by_cases hroom:m<=sp
 ·have f:=run_append_room (P:=P) w t ty e i ht hi g es.length (es.length+sp) _ h4 ad m c (Zak fs) hl hc (Zri fs) Gk (by rw[C,Za5,Za5];simp[Zbj,Za5];omega)
  refine⟨_,_,f,.inr ⟨g,sp-m,?_,h2,?_,?_⟩,⟨rfl,rfl,rfl,by simp[World.setRow],λk _ hk=>setRow_other w g k _ (λe'=>hk (by simp[Value.ownBlock,e']))⟩,.inl rfl⟩;rw[Qj,hm,show es.length+m+(sp-m)=es.length+sp by omega];rw[Qj,hm];omega;refine(setRow_heap w g _ _ e _ h4).trans ?_;congr 2;unfold Zbj;congr 1;rw[C];have I:Qg sp Zck=Qg m Zck++Qg (sp-m) Zck:=by rw[List.replicate_append_replicate];congr 1;omega
  have J:(Zak fs).length=(Zak (Qg m Zck)).length:=by rw[Za5,Za5,hm,List.length_replicate]
  simp only[Zcp];rw[List.take_left,J,<- Qj,I,Zcp,<- QE (Zak es),List.drop_left,QE]
 have E:∀ j u,(Zak es)[j]?=some u->w.cell? ((⟨g,0,none⟩:Addr).add j)=some u:=λj u hu=>by
   rw[Zf,QA,h4.cell];simp only[Zbj,List.getElem?_toArray,Zcp];exact Fw
 have f:=run_append_grow (P:=P) w t ty e i _ ht hi hz ⟨g,0,none⟩ es.length (es.length+sp) (Zak es) C.symm E ad m c (Zak fs) hl hc Gk Gk (growslice_fits Gk (by rw[hby];omega));have h:=grownCap_ge w (es.length+m) (es.length+sp) e;have o:=grownCap_le_maxLen w (es.length+m) (es.length+sp) e (by unfold maxLen;omega);refine⟨_,_,f,.inr ⟨w.heap.size,grownCap w (es.length+m) (es.length+sp) e-(es.length+m),?_,hbase,?_,?_⟩,⟨rfl,rfl,rfl,by simp,λk hk _=>Below.heap_alloc w.drew _ k hk⟩,.inr (λk hk=>by first|(simp[Value.ownBlock]at hk;omega)|(cases hk;exact Qb _))⟩;rw[Qj,hm,Qn h];rw[Qj,hm,Qn h];exact o;have:=heap_alloc_new w.drew (.cells ((Zak es).toArray++(Zak fs).toArray++Qp (Value.agg #[.bool false,.slice none 0 0]).cells (grownCap w (es.length+m) (es.length+sp) e-(es.length+m))) e);unfold Blk;refine this.trans ?_;congr 1
 have hx:(Zak es).toArray++(Zak fs).toArray++Qp (Value.agg #[.bool false,.slice none 0 0]).cells (grownCap w (es.length+m) (es.length+sp) e-(es.length+m))=Zbj (es++fs++Qg (grownCap w (es.length+m) (es.length+sp) e-(es.length+m)) Zck):=by
  apply Array.toList_inj.1;rw[Qs,Qs,show (Value.agg #[.bool false,.slice none 0 0]).cells=#[.bool false,.slice none 0 0] from rfl,Zhk];simp[Zbj,Zcp]
 rw[hx]
theorem Zl0{o:Oper}{a:Act}{K:Act->World->Prop}{Q:Exit->Act->World->Prop}(s x:Operand)(t:TypeId)
    (ho:o.op=.call { callee:=.builtin .append,args:=#[s,x],argTypes:=#[t,t] })
    (base:Nat) (e:TypeId) (i:TypeInfo) (ht:P.underlying t=some (.slice e)) (hi:P.info? e=some i) (hz:i.zero=some (.agg #[.bool false,.slice none 0 0])) (hsi:i.size=2) (hby:i.bytes=32)
    (v:Value) (xs:List Int) (hs:a.eval s=v) (hown:OwnP e w base v xs)
    (B:Nat) (A:Option Addr) (m c:Nat) (fs:List WE) (hx:a.eval x=.slice A m c) (hr:Reads w B 2 A m (Zak fs)) (hm:fs.length=m) (hfs:∀ e ∈ fs,Lim w e.A e.n e.c e.l/\e.ok=true)
    (h63:xs.length+m<=1000) (hbase:base<=w.heap.size)
    (h:∀ v' w',OwnP e w' base v' (xs++fs.map WE.num)->w.grownBy w' v.ownBlock->(∀ (A:Option Addr) (n c:Nat) (l:List Nat),Lim w A n c l->Lim w' A n c l)->(v'.ownBlock=v.ownBlock \/ ∀ k,v'.ownBlock=some k->w.heap.size<=k)->K (a.put o.dst v') w'):o.wp P a w K Q:=by
 obtain⟨es,h1,h2,rfl⟩:=hown;rw[Qf]at h63;obtain⟨v',w',f,h3,h4,h5⟩:=Zjz (P:=P) w base t o.type e i ht hi hz hsi hby v es h1 B A m c fs hr hm h63 hbase;unfold Oper.wp execOp;simp only[ho,resolve,invoke,builtin,Sem.run_bind,Sem.run_pure,Result.andThen_ok,List.map_toArray,List.map_cons,List.map_nil,hs,hx,f];have hk:∀ (A:Option Addr) (n c:Nat) (l:List Nat),Lim w A n c l->Lim w' A n c l:=λ_ _ _ _ hL=>h1.keep h4 hL;refine h v' w' ⟨es++fs,h3,λe he=>?_,by rw[Qk]⟩ h4 hk h5;rcases List.mem_append.1 he with he|he;exact⟨hk _ _ _ _ (h2 e he).1,(h2 e he).2⟩;exact⟨hk _ _ _ _ (hfs e he).1,(hfs e he).2⟩
end
def MatOZ(tS tF:TypeId)(w:World)(base:Nat)(v:Value)(L:List RZ):Prop:=
 RowS tS w base v (L.map RZ.rs)/\(∀ r ∈ L,(POwn tF w r.g r.q/\r.q.length<=maxLen)/\base<=r.g)/\(L.map RZ.g).Nodup
section
variable{tS tF:TypeId}{w w':World}{base:Nat}{v v':Value}{L:List RZ}
theorem MatOZ.nil(tS tF:TypeId)(w:World)(base:Nat):MatOZ tS tF w base (.slice none 0 0) []:=⟨.inl ⟨rfl,rfl⟩,λr hr=>(by cases hr),List.nodup_nil⟩
theorem MatOZ.kept(h:MatOZ tS tF w base v L)(hb:Below w.heap.size w w'):MatOZ tS tF w' base v L:=⟨h.1.kept hb,λr hr=>⟨⟨(h.2.1 r hr).1.1.below hb,(h.2.1 r hr).1.2⟩,(h.2.1 r hr).2⟩,h.2.2⟩
theorem POwn.grown{g:Nat}{qs:List Int}(h:POwn tF w g qs)(hg:w.grownBy w' v.ownBlock)(hne:v.ownBlock≠some g)(hk:∀ (A:Option Addr) (n c:Nat) (l:List Nat),Lim w A n c l->Lim w' A n c l):POwn tF w' g qs:=by
 obtain⟨es,h1,h2,h3⟩:=h;exact⟨es,(hg.block g h1.lt (λe=>hne (by first|exact e|exact e.symm))).trans h1,λe he=>⟨hk _ _ _ _ (h2 e he).1,(h2 e he).2⟩,h3⟩
theorem MatOZ.snoc(h:MatOZ tS tF w base v L)(hne:tS≠tF){r:RZ}(hr:POwn tF w r.g r.q/\r.q.length<=maxLen)(hbr:base<=r.g)(hnew:∀ s ∈ L,s.g≠r.g)(h1:RowS tS w' base v' (L.map RZ.rs ++ [r.rs]))(hg:w.grownBy w' v.ownBlock)
    (hk:∀ (A:Option Addr) (n c:Nat) (l:List Nat),Lim w A n c l->Lim w' A n c l):MatOZ tS tF w' base v' (L ++ [r]):=by
 have ow:∀ {s:RZ},POwn tF w s.g s.q->v.ownBlock≠some s.g:=λhs=>by obtain⟨es,q1,-,-⟩:=hs;exact h.1.ownType q1 hne
 refine⟨by rw[Qk];exact h1,λs hs=>?_,?_⟩
 ·rcases List.mem_append.1 hs with hs|hs
  ·have:=h.2.1 s hs
   exact⟨⟨this.1.1.grown hg (ow this.1.1) hk,this.1.2⟩,this.2⟩
  rw[Qi]at hs;subst hs;exact⟨⟨hr.1.grown hg (ow hr.1) hk,hr.2⟩,hbr⟩
 rw[Qk,List.nodup_append];refine⟨h.2.2,by simp,λa ha b hb=>?_⟩;obtain⟨s,hs,rfl⟩:=List.mem_map.1 ha;simp only[List.map_cons,List.map_nil,Qi]at hb;rw[hb];exact hnew s hs
theorem MatOZ.mat(h:MatOZ tS tF w base v L)(hne:tS≠tF)(hl:L ≠ []):∃ go cap,v=.slice (some ⟨go,0,none⟩) L.length cap/\L.length<=cap/\cap<=maxLen/\base<=go/\MatZ tS tF w go L/\∀ r ∈ L,base<=r.g:=by
 rcases h.1 with ⟨-,h2⟩|⟨go,sp,rfl,h2,h3,h4⟩;exact absurd (List.map_eq_nil_iff.1 h2) hl;refine⟨go,_,by rw[Qf],by rw[Qf];omega,h3,h2,⟨⟨_,h4⟩,λr hr=>(h.2.1 r hr).1,?_⟩,λr hr=>(h.2.1 r hr).2⟩;refine List.nodup_cons.2 ⟨λhm=>?_,h.2.2⟩;obtain⟨r,hr,e⟩:=List.mem_map.1 hm;obtain⟨es,q1,-,-⟩:=(h.2.1 r hr).1.1;rw[e]at q1;exact hne (h4.type q1)
end
section
variable{tS tW t':TypeId}{w:World}{base:Nat}{v:Value}{L:List RZ}{xs:List Int}{rs:List RS}
theorem RowS.isSlice(h:RowS tS w base v rs):∃ A n c,v=.slice A n c:=by
 rcases h with ⟨rfl,_⟩|⟨g,sp,rfl,_⟩;exact⟨_,_,_,rfl⟩;exact⟨_,_,_,rfl⟩
theorem RowS.mono{b:Nat}(h:RowS tS w base v rs)(hb:b<=base):RowS tS w b v rs:=by
 rcases h with h|⟨g,sp,h1,h2,h3⟩;exact .inl h;exact .inr ⟨g,sp,h1,Qo hb h2,h3⟩
theorem MatOZ.mono{b:Nat}(h:MatOZ tS tW w base v L)(hb:b<=base):MatOZ tS tW w b v L:=⟨h.1.mono hb,λr hr=>⟨(h.2.1 r hr).1,Qo hb (h.2.1 r hr).2⟩,h.2.2⟩
theorem OwnP.isSlice(h:OwnP tW w base v xs):∃ A n c,v=.slice A n c:=by
 obtain⟨A,c,e,-⟩:=h.poly;exact⟨_,_,_,e⟩
theorem OwnP.mono{b:Nat}(h:OwnP tW w base v xs)(hb:b<=base):OwnP tW w b v xs:=by
 obtain⟨es,h1,h2,h3⟩:=h;refine⟨es,?_,h2,h3⟩;rcases h1 with h|⟨g,sp,h1,h2,h3⟩;exact .inl h;exact .inr ⟨g,sp,h1,Qo hb h2,h3⟩
theorem IJ{G:Prop}(h:G:=by
 exact .inr ⟨g',sp,h1,h2,h3,h4.far (p:=⟨g,i,none⟩) (by show g'≠g;omega) u⟩):G:=h
theorem RowS.far{g:Nat}(h:RowS tS w base v rs)(hg:g<base)(i:Nat)(u:Value):RowS tS (w.setCell ⟨g,i,none⟩ u) base v rs:=by
 rcases h with h|⟨g',sp,h1,h2,h3,h4⟩;exact .inl h;exact IJ
theorem MatOZ.far{g:Nat}{cs:Array Value}(h:MatOZ tS tW w base v L)(hg:g<base)(hb:Blk w g t' cs)(hcs:NoLimb cs)(i:Nat)(u:Value):MatOZ tS tW (w.setCell ⟨g,i,none⟩ u) base v L:=by
 refine⟨h.1.far hg i u,λr hr=>⟨⟨?_,(h.2.1 r hr).1.2⟩,(h.2.1 r hr).2⟩,h.2.2⟩;have f:=(h.2.1 r hr).2;obtain⟨es,q1,q2,q3⟩:=(h.2.1 r hr).1.1;exact⟨es,q1.far (p:=⟨g,i,none⟩) (by show r.g≠g;omega) u,λe he=>⟨(q2 e he).1.set_box hb hcs i u,(q2 e he).2⟩,q3⟩
theorem OwnP.far{g:Nat}{cs:Array Value}(h:OwnP tW w base v xs)(hg:g<base)(hb:Blk w g t' cs)(hcs:NoLimb cs)(i:Nat)(u:Value):OwnP tW (w.setCell ⟨g,i,none⟩ u) base v xs:=by
 obtain⟨es,h1,h2,h3⟩:=h;refine⟨es,?_,λe he=>⟨(h2 e he).1.set_box hb hcs i u,(h2 e he).2⟩,h3⟩;rcases h1 with h|⟨g',sp,h1,h2,h3,h4⟩;exact .inl h;exact IJ
theorem Zj5{x y:Value}(hx:∀ k,x≠limb k)(hy:∀ k,y≠limb k):NoLimb #[x,y]:=λi k=>by
 match i with
 | 0=>simpa using hx k
 | 1=>simpa using hy k
 | i+2=>simp
theorem Zo0{g:Nat}{x0 y0 x y:Value}{base2:Nat}(hb:Blk w g t' #[x0,y0])(h0:∀ k,x0≠limb k)(h1:∀ k,y0≠limb k)(hx:∀ k,x≠limb k)(hM:MatOZ tS tW w base v L)(hg:g<base){v2:Value}(hP:OwnP tW w base2 v2 xs)(hg2:g<base2) :
    Blk ((w.setCell ⟨g,0,none⟩ x).setCell ⟨g,1,none⟩ y) g t' #[x,y]/\MatOZ tS tW ((w.setCell ⟨g,0,none⟩ x).setCell ⟨g,1,none⟩ y) base v L/\OwnP tW ((w.setCell ⟨g,0,none⟩ x).setCell ⟨g,1,none⟩ y) base2 v2 xs:=by
 have e:Blk (w.setCell ⟨g,0,none⟩ x) g t' #[x,y0]:=hb.set_ 0 x;have f:Blk ((w.setCell ⟨g,0,none⟩ x).setCell ⟨g,1,none⟩ y) g t' #[x,y]:=e.set_ 1 y;exact⟨f,(hM.far hg hb (Zj5 h0 h1) 0 x).far hg e (Zj5 hx h1) 1 y,(hP.far hg2 hb (Zj5 h0 h1) 0 x).far hg2 e (Zj5 hx h1) 1 y⟩
end
section
variable{tS tW tG:TypeId}{w w' W0:World}{g3 gd gO base:Nat}{v1 v1' v2 v2':Value}{L:List RZ}{xs q:List Int}{dn:Bool}{dA:Option Addr}{dk dc:Nat}{D:Int}
def EnvW(tS tW tG:TypeId)(w:World)(g3 gd gO base:Nat)(v1 v2:Value)(L:List RZ)(xs:List Int)(dn:Bool)(dA:Option Addr)(dk dc:Nat)(D:Int)(q:List Int):Prop:=
 MatOZ tS tW w base v1 L/\(POwn tW w gO q/\q.length<=maxLen)/\OwnP tW w base v2 xs/\Blk w gd tW #[.bool dn,.slice dA dk dc]/\Wd w dn dA dk dc D/\Blk w g3 tG #[v1,v2]/\(g3<base/\base<=gO)/\(∀ s ∈ L,s.g≠gO)/\v2.ownBlock≠some gO/\(∀ s ∈ L,v2.ownBlock≠some s.g)
theorem EnvW.below(h:EnvW tS tW tG w g3 gd gO base v1 v2 L xs dn dA dk dc D q)(hb:Below w.heap.size w w'):EnvW tS tW tG w' g3 gd gO base v1 v2 L xs dn dA dk dc D q:=by
 obtain⟨h1,h2,h3,h4,h5,h6,h7⟩:=h;exact⟨h1.kept hb,⟨h2.1.below hb,h2.2⟩,h3.kept hb,Zc hb h4,h5.below hb,Zc hb h6,h7⟩
def EnvA(tS tW tG:TypeId)(w:World)(g3 gd base:Nat)(v1 v2 v1':Value)(L:List RZ)(xs:List Int)(dn:Bool)(dA:Option Addr)(dk dc:Nat)(D:Int):Prop:=
 MatOZ tS tW w base v1' L/\OwnP tW w base v2 xs/\Blk w gd tW #[.bool dn,.slice dA dk dc]/\Wd w dn dA dk dc D/\Blk w g3 tG #[v1,v2]/\g3<base/\(∀ s ∈ L,v2.ownBlock≠some s.g)
theorem EnvA.below(h:EnvA tS tW tG w g3 gd base v1 v2 v1' L xs dn dA dk dc D)(hb:Below w.heap.size w w'):EnvA tS tW tG w' g3 gd base v1 v2 v1' L xs dn dA dk dc D:=by
 obtain⟨h1,h3,h4,h5,h6,h7⟩:=h;exact⟨h1.kept hb,h3.kept hb,Zc hb h4,h5.below hb,Zc hb h6,h7⟩
theorem Ix{G:Prop}(h:G:=by
 exact .inr ⟨g',sp,h1,h2,h3,(hg.block g' h4.lt (λe=>aT g' _ h4 (by first|exact e|exact e.symm))).trans h4⟩):G:=h
theorem OwnP.grownT(h:OwnP tW w base v2 xs)(hg:w.grownBy w' v1.ownBlock)(aT:∀ g cs,Blk w g tW cs->v1.ownBlock≠some g)(hk:∀ (A:Option Addr) (n c:Nat) (l:List Nat),Lim w A n c l->Lim w' A n c l):OwnP tW w' base v2 xs:=by
 obtain⟨es,h1,h2,h3⟩:=h;refine⟨es,?_,λe he=>⟨hk _ _ _ _ (h2 e he).1,(h2 e he).2⟩,h3⟩;rcases h1 with h|⟨g',sp,h1,h2,h3,h4⟩;exact .inl h;exact Ix
theorem EnvW.app(h:EnvW tS tW tG w g3 gd gO base v1 v2 L xs dn dA dk dc D q)(t1:tS≠tW)(t2:tS≠tG)(hR:RowS tS w' base v1' (L.map RZ.rs ++ [RZ.rs ⟨gO,q⟩]))(hg:w.grownBy w' v1.ownBlock)(hk:∀ (A:Option Addr) (n c:Nat) (l:List Nat),Lim w A n c l->Lim w' A n c l) :
    EnvA tS tW tG w' g3 gd base v1 v2 v1' (L ++ [⟨gO,q⟩]) xs dn dA dk dc D:=by
 obtain⟨h1,h2,h3,h4,h5,h6,h7,h8,h9,f⟩:=h;refine⟨h1.snoc t1 (r:=⟨gO,q⟩) h2 h7.2 h8 hR hg hk,h3.grownT hg (λg cs hb=>h1.1.ownType hb t1) hk,(hg.block gd h4.lt (λe=>h1.1.ownType h4 t1 (by first|exact e|exact e.symm))).trans h4,h5.of_keep hk,(hg.block g3 h6.lt (λe=>h1.1.ownType h6 t2 (by first|exact e|exact e.symm))).trans h6,h7.1,λs hs=>?_⟩;rcases List.mem_append.1 hs with hs|hs;exact f s hs;rw[Qi]at hs;subst hs;exact h9
theorem RowS.grownP{rs:List RS}(h:RowS tS w base v1 rs)(hg:w.grownBy w' v2.ownBlock)(aT:∀ g cs,Blk w g tS cs->v2.ownBlock≠some g):RowS tS w' base v1 rs:=by
 rcases h with h|⟨g',sp,h1,h2,h3,h4⟩;exact .inl h;exact Ix
theorem OwnP.ownType{t:TypeId}(h:OwnP tW w base v2 xs){g:Nat}{cs:Array Value}(hb:Blk w g t cs)(hne:tW≠t):v2.ownBlock≠some g:=by
 rintro e;obtain⟨es,h1,-,-⟩:=h;rcases h1 with ⟨rfl,_⟩|⟨g',sp,rfl,_,_,h4⟩;cases e;have:g'=g:=by simpa [Value.ownBlock]using e
 subst this;exact hne (h4.type hb)
theorem EnvA.app(h:EnvA tS tW tG w g3 gd base v1 v2 v1' L xs dn dA dk dc D)(t1:tS≠tW)(hP:OwnP tW w' base v2' (xs ++ [D]))(hg:w.grownBy w' v2.ownBlock)(hk:∀ (A:Option Addr) (n c:Nat) (l:List Nat),Lim w A n c l->Lim w' A n c l)(hw:v2'.ownBlock=v2.ownBlock \/ ∀ k,v2'.ownBlock=some k->w.heap.size<=k) :
    MatOZ tS tW w' base v1' L/\OwnP tW w' base v2' (xs ++ [D])/\Blk w' g3 tG #[v1,v2]/\∀ s ∈ L,v2'.ownBlock≠some s.g:=by
 obtain⟨h1,h3,-,h5,h6,h7,h8⟩:=h;refine⟨⟨h1.1.grownP hg (λg cs hb=>h3.ownType hb (Ne.symm t1)),λs hs=>⟨⟨(h1.2.1 s hs).1.1.grown hg (h8 s hs) hk,(h1.2.1 s hs).1.2⟩,(h1.2.1 s hs).2⟩,h1.2.2⟩,hP,(hg.block g3 h6.lt (λe=>?_)).trans h6,λs hs e=>?_⟩
 ·have:=h3.row_ge g3 (by first|exact e|exact e.symm);omega
 rcases hw with hw|hw;exact h8 s hs (by rw[<- hw];exact e);have:=hw _ e;have:=(h1.2.1 s hs).1.1.lt;omega
theorem EnvW.far{t:TypeId}{g:Nat}{cs:Array Value}(h:EnvW tS tW tG w g3 gd gO base v1 v2 L xs dn dA dk dc D q)(t1:tS≠t)(hg:w.grownBy w' v1.ownBlock)(hb:Blk w g t cs):Blk w' g t cs:=
 (hg.block g hb.lt (λe=>h.1.1.ownType hb t1 (by first|exact e|exact e.symm))).trans hb
theorem Zd3{t:TypeId}{g:Nat}{A:Option Addr}{n c:Nat}(h:Blk w g t #[.slice A n c]):Reads w (g+1) 1 (some ⟨g,0,none⟩) 1 (Zax [⟨A,n,c⟩]):=
 ⟨rfl,λ_=>⟨_,rfl,Qx _,λj u hu=>by
  rw[Zf,QA,h.cell];simpa [Zax]using hu⟩⟩
theorem Zrb{t:TypeId}{g:Nat}{neg:Bool}{A:Option Addr}{n c:Nat}(l:List Nat)(h:Blk w g t #[.bool neg,.slice A n c]):Reads w (g+1) 2 (some ⟨g,0,none⟩) 1 (Zak [⟨neg,A,n,c,l⟩]):=
 ⟨rfl,λ_=>⟨_,rfl,Qx _,λj u hu=>by
  rw[Zf,QA,h.cell];simpa [Zak]using hu⟩⟩
theorem EnvW.cells(h:EnvW tS tW tG w g3 gd gO base v1 v2 L xs dn dA dk dc D q):w.cell? ⟨g3,0,none⟩=some v1/\w.cell? ⟨g3,1,none⟩=some v2:=by
 have:=h.2.2.2.2.2.1;exact⟨by rw[this.cell];rfl,by rw[this.cell];rfl⟩
theorem EnvA.cells(h:EnvA tS tW tG w g3 gd base v1 v2 v1' L xs dn dA dk dc D):w.cell? ⟨g3,0,none⟩=some v1/\w.cell? ⟨g3,1,none⟩=some v2:=by
 have:=h.2.2.2.2.1;exact⟨by rw[this.cell];rfl,by rw[this.cell];rfl⟩
theorem Kept.grownG{G:Nat->Prop}{row:Option Nat}(h:Kept G W0 w)(hg:w.grownBy w' row)(hr:∀ k,row=some k->W0.heap.size<=k):Kept G W0 w':=
 ⟨hg.os.trans h.os,hg.tape.trans h.tape,hg.output.trans h.output,Qo h.size hg.size,λk hk hG=>(hg.block k (Qd hk h.size) (λe=>by have:=hr k (by first|exact e|exact e.symm);omega)).trans (h.block k hk hG)⟩
theorem Kept.of_belowGe{g:Nat}(h:Below g w w'):Kept (λk=>g<=k) w w':=⟨h.os,h.tape,h.output,h.size,λk _ hk=>h.block k Gk⟩
end
theorem Zvf:(Tryz.prog.info? 30).map (λi=>(i.zero,i.size,i.bytes))=some (some (.agg #[.bool false,.slice none 0 0]),2,32):=by kernel_rfl
theorem Zuy:(Tryz.prog.info? 158).map (λi=>(i.zero,i.size,i.bytes))=some (some (.slice none 0 0),1,24):=by kernel_rfl
theorem Zix(a b:Nat):Qw (a:Int) (b:Int)=((a/b:Nat):Int):=by rw[Int.fdiv_eq_ediv_of_nonneg _ Gk];rfl
theorem Zob(row:List Rat){j k:Nat}(h:j<k):(row[j]?.getD 0).den<=Za4 row k:=Nat.le_of_dvd (Zd0 _ _) (Zjh row h)
theorem Znk(A:Option Addr)(n c m:Nat)(Q:List (List Rat))(w:World)(h:MFL w A n c Q)(hn9:n<=900)(hm:∀ i,i<n->(Q[i]?.getD []).length=m)(hm0:0<m)(hm9:m<=900)
    (m6:∀ i k,i<n->k<=m->Za4 (Q[i]?.getD []) k<pw 1000) (n6:∀ i j,(Zv Q i j).num.natAbs<pw 1000) :
    Calls Tryz.prog 115 #[.slice A n c] w λe w'=>∃ v vby L,e=.returned (.agg #[v,vby])/\Below w.heap.size w w'/\MatOZ 158 30 w' w.heap.size v L/\L.map RZ.q=Zab Q /\
     OwnP 30 w' w.heap.size vby ((Qv n).map λi=>((Zc3 Q i:Nat):Int))/\∀ s ∈ L,vby.ownBlock≠some s.g:=by
 obtain⟨iW,hi,F7,G4,D8⟩:=info_parts Zvf;obtain⟨iS,ki,k6,j7,k8⟩:=info_parts Zuy;have hmx:=Gt;have c4:(158:TypeId)≠30:=Gi;have hl:=Zb h.1;have K6:=h.2.1;have H7:=h.2.2.1;unfold maxLen at H7;replace hm:=Zb hm;replace m6:=Zb m6;replace n6:=Zb n6;obtain⟨W0,D6,p4,⟨q0,q1⟩,s0⟩:=Zcs w 167 #[.slice none 0 0,.slice none 0 0] 167 #[.slice none 0 0,.slice none 0 0];have I9:=Zb h;obtain⟨gR,e5⟩:=Gz w.heap.size;rw[e5]at q0 q1 s0 p4;obtain⟨g3,q6⟩:=Gz (gR+1);rw[q6]at q1;have J2:Hid (W0.heap.size=g3+1):=Zb (by rw[s0];omega);have G8:Hid (gR<g3):=Zb Gk;clear h;replace q0:=Zb q0;replace q1:=Zb q1;go_in;go_wp2_with fail;(try rw[D6]);(try rw[e5]);(try rw[q6]);replace e5:=Zb e5;replace q6:=Zb q6;replace p4:=Zb p4;clear D6 s0
 go_loopg [16] n (λk iv wr=>∃ (i:Nat) (v1 v2:Value) (L:List RZ),i+k=n/\iv=.int .i64 i/\Blk wr g3 167 #[v1,v2]/\MatOZ 158 30 wr W0.heap.size v1 L/\Hid (L.map RZ.q=(Q.take i).map Zdr)/\OwnP 30 wr W0.heap.size v2 ((Qv i).map λi=>((Zc3 Q i:Nat):Int))/\Hid (∀ s ∈ L,v2.ownBlock≠some s.g)/\Kept (λk=>k=g3) W0 wr)
 case atStart=>exact⟨0,.slice none 0 0,.slice none 0 0,[],by omega,rfl,q1.out,MatOZ.nil _ _ _ _,Zb Gh,OwnP.nil _ _ _,Zb (λs hs=>(by cases hs)),Qm _ _⟩
 case round =>
  obtain⟨i,v1,v2,L,K8,rfl,d3,d5,B8,d6,t0,hK⟩:=hrel;have K0:=G8.out;have K1:=J2.out;have h8:=hK.blk q0.out Gk;have K5:∀ k,k=g3->∃ t cs,Blk W0 k t cs/\NoLimb cs:=λk hk=>⟨_,_,(hk▸q1.out:Blk W0 k 167 #[.slice none 0 0,.slice none 0 0]),λi u=>by match i with|0=>simp|1=>simp|i+2=>simp⟩;cases gk with
  | zero =>
   obtain rfl:i=n:=Gk;have t1:decide ((i:Int)<(i:Int))=false:=Gh;have b0:wr.cell? ⟨g3,0,none⟩=some v1:=by rw[d3.cell];rfl
   have b1:wr.cell? ⟨g3,1,none⟩=some v2:=by rw[d3.cell];rfl
   have r0:wr.cell? ⟨gR,0,none⟩=some (.slice none 0 0):=by rw[h8.cell];rfl
   have r1:wr.cell? ⟨gR,1,none⟩=some (.slice none 0 0):=by rw[h8.cell];rfl
   have z0:=h8.frozen 0;have z1:=h8.frozen 1;replace d5:=Zb d5;replace d6:=Zb d6;obtain⟨a1,a2,a3,rfl⟩:=d5.out.1.isSlice;obtain⟨a4,a5,a6,rfl⟩:=d6.out.isSlice;obtain⟨X,hX⟩:∃ X,(wr.setCell ⟨gR,0,none⟩ (.slice a1 a2 a3)).setCell ⟨gR,1,none⟩ (.slice a4 a5 a6)=X:=⟨_,rfl⟩;have c9:=Zo0 (x:=.slice a1 a2 a3) (y:=.slice a4 a5 a6) h8 (λk=>by simp) (λk=>by simp) (λk=>by simp) d5.out Gk d6.out Gk;rw[hX]at c9;obtain⟨p1,p2,p3⟩:=c9;have y0:X.cell? ⟨gR,0,none⟩=some (.slice a1 a2 a3):=by rw[p1.cell];rfl
   have y1:X.cell? ⟨gR,1,none⟩=some (.slice a4 a5 a6):=by rw[p1.cell];rfl
   have H6:Hid (Below w.heap.size w X):=Zb (by
    rw[e5.out]
    have h1:Below gR W0 X:=by
     rw[<- hX];exact(((hK.to_below (B:=gR) (λk hk=>by omega) Gk).setCell (p:=⟨gR,0,none⟩) (Qb _) _).setCell (p:=⟨gR,1,none⟩) (Qb _) _)
    exact p4.out.trans h1)
   replace p2:=Zb p2;replace p3:=Zb p3;clear p1 h8 d3;go_wp2_with fail;(try rw[hX]);refine bodyPost_ret (v:=.agg #[.slice a1 a2 a3,.slice a4 a5 a6]) (by simp[results,Tryz.results115,go_sem,y0,y1]) rfl ?_;have F8:w.heap.size<=W0.heap.size:=by rw[e5.out];omega
   refine⟨_,_,L,rfl,H6.out,p2.out.mono F8,?_,p3.out.mono F8,t0.out⟩;rw[B8.out];unfold Zab;rw[List.take_of_length_le (by rw[hl.out];exact Qb _)]
  | succ j =>
   obtain rfl:j=n-(i+1):=Gk;have n0:i<n:=Gk;have t1:decide ((i:Int)<(n:Int))=true:=Gv Gk;have bi:(i:Int)<(n:Int):=Gk;have j1:Below w.heap.size w wr:=by rw[e5.out];exact p4.out.trans (hK.to_below (λk hk=>by omega) Gk)
   obtain⟨ga,oa,A1,n1,c1,rfl,k0,hF⟩:=I9.out.at_ n0;obtain⟨row,c0⟩:=Gz (Q[i]?.getD []);have I5:n1=m:=by rw[<- hF.len];exact hm.out i n0
   subst I5;rw[c0]at hF;have F3:=hF.cap;unfold maxLen at F3;have r7:Hid (row.length=n1):=Zb hF.len;have c8:Hid (∀ k,k<=n1->Za4 row k<pw 1000):=Zb (λk hk=>by rw[<- c0];exact m6.out i k n0 hk);have x4:Hid (∀ t:Nat,(row[t]?.getD 0).num.natAbs<pw 1000):=Zb (λt=>by rw[<- c0];exact n6.out i t);have k1:=Za j1 k0;replace hF:=Zb hF;replace c0:=Zb c0;replace d3:=Zb d3;replace d5:=Zb d5;replace d6:=Zb d6;have F4:Hid (∀ s ∈ L,s.g<wr.heap.size):=Zb (λs hs=>(d5.out.2.1 s hs).1.1.lt)
   have D5:Hid (∀ k,v2.ownBlock=some k->k<wr.heap.size):=Zb (λk hk=>by
    obtain⟨es,h1,-,-⟩:=d6.out;rcases h1 with ⟨rfl,-⟩|⟨g',sp,rfl,-,-,h4⟩;cases hk;have:g'=k:=by simpa [Value.ownBlock]using hk
    rw[<- this];exact h4.lt)
   clear h8 k0;go_wp2_with fail;refine(Zcn 1 wr Gi Gi).mono ?_;rintro e w1 ⟨p8,d0,D0,e0,f0,rfl,hN⟩;obtain⟨gd,l1⟩:=Gz w1.heap.size;obtain⟨V,hV,r5,qd,kW,kB,sV⟩:=Zap 30 #[.bool d0,.slice D0 e0 f0] p8 p8.size;have I1:Hid (Wd V d0 D0 e0 f0 ((Za4 row 0:Nat):Int)):=Zb (kW _ _ _ _ _ hN);rw[l1]at qd
   have t5:Hid (g3<gd/\W0.heap.size<=gd):=Zb (by
    have h1:=d3.out.lt;have h2:=p8.size;have h3:=hK.size;omega)
   have v0:Hid (Below w.heap.size w V):=Zb (Gs j1 r5);have H8:Hid (gd<V.heap.size):=Zb qd.lt;have i7:wr.heap.size<=gd:=by rw[<- l1];exact p8.size
   have J5:Hid (∀ wx,Below gd V wx->MatOZ 158 30 wx W0.heap.size v1 L/\OwnP 30 wx W0.heap.size v2 ((Qv i).map λi=>((Zc3 Q i:Nat):Int))/\Blk wx g3 167 #[v1,v2]/\Kept (λk=>k=g3) W0 wx):=Zb (λwx hx=>by
    have hb:Below wr.heap.size wr wx:=r5.trans (hx.mono i7);have H2:Kept (λk=>k=g3) W0 V:=hK.below r5;exact⟨d5.out.kept hb,d6.out.kept hb,d3.out.below hb d3.out.lt,H2.and (Kept.of_belowGe hx) (λk hk h=>by have:=hK.size;omega)⟩)
   have F1:Hid (∀ s ∈ L,s.g<gd):=Zb (λs hs=>Qd (F4.out s hs) i7);have G7:Hid (∀ k,v2.ownBlock=some k->k<gd):=Zb (λk hk=>Qd (D5.out k hk) i7);have D7:=Zb qd;replace l1:=Zb l1;clear d3 d5 d6 hK j1 hN qd kW kB sV r5 p8 k1 F4 D5 i7;go_wp2_with fail;(try rw[l1.out]);(try rw[hV]);clear hV;have v7:Hid (w.heap.size<=gd):=Zb (by have h1:=t5.out;rw[e5.out];omega);have H4:Hid (∀ k,k=gd->∃ t cs,Blk V k t cs/\NoLimb cs):=Zb (λk hk=>⟨_,_,(hk▸D7.out:Blk V k 30 #[.bool d0,.slice D0 e0 f0]),Zfk _ _ _ _⟩)
   go_loopg [23] n1 (λk iv wr=>∃ (t:Nat) (dn:Bool) (dA:Option Addr) (dk dc:Nat),t+k=n1/\iv=.int .i64 t/\Blk wr gd 30 #[.bool dn,.slice dA dk dc]/\Wd wr dn dA dk dc ((Za4 row t:Nat):Int)/\Kept (λk=>k=gd) V wr)
   case atStart=>exact⟨0,d0,D0,e0,f0,by omega,rfl,D7.out,I1.out,Qm _ _⟩
   case round =>
    obtain⟨t,dn,dA,dk,dc,K7,rfl,U,d7,n7⟩:=hrel;have e6:Below w.heap.size w wr:=v0.out.trans (n7.to_below (λk hk=>by rw[hk];exact v7.out) (v0.out.size));cases gk with
    | zero =>
     obtain rfl:t=n1:=Gk;have t2:decide ((t:Int)<(t:Int))=false:=Gh;have J1:Hid (Za4 row t=Zc3 Q i):=Zb (by unfold Zc3;rw[c0.out,r7.out]);have t7:Below gd V wr:=n7.to_below (λk hk=>by omega) (QB H8.out);obtain⟨gO,n9⟩:=Gz wr.heap.size;obtain⟨Wo,r4⟩:=Gz (wr.alloc (.cells (Zbj (Qg t Zck)) 30));have H5:=makeW (P:=Tryz.prog) 158 30 Tryz.underlying158 hi F7 G4 D8 (t:Int) t rfl Gk;have m5:Below wr.heap.size wr Wo:=by rw[<- r4];exact(Qc _ _).alloc (Qb _) _
     have hO:POwn 30 Wo gO (Qg t 0):=by rw[<- r4,<- n9];exact POwn.new _ _ _
     have v6:Hid (Blk Wo gd 30 #[.bool dn,.slice dA dk dc]):=Zb (U.below m5 U.lt);have G1:Hid (Wd Wo dn dA dk dc ((Za4 row t:Nat):Int)):=Zb (d7.below m5);have D9:Hid (Below gd V Wo):=Zb (t7.trans (m5.mono (QB U.lt)));have s6:Hid (Below w.heap.size w Wo):=Zb (Gs e6 m5);have D1:Hid (gd<gO):=Zb (by rw[<- n9];exact U.lt);replace hO:=Zb hO;clear U d7 n7 e6 t7 m5;go_wp2_with fail;(try rw[n9]);(try rw[r4]);clear r4 H5;replace n9:=Zb n9;have B3:Hid (∀ k,k=gO->∃ t cs,Blk Wo k t cs/\NoLimb cs):=Zb (λk hk=>by rw[hk];exact hO.out.box)
     go_loopg [46] t (λk iv wr=>∃ (x:Nat) (q3:List Int),x+k=t/\iv=.int .i64 x/\POwn 30 wr gO q3/\Hid (q3.length=t)/\Hid (∀ y:Nat,q3[y]?.getD 0=if y<x then (row[y]?.getD 0).num*((Za4 row t/(row[y]?.getD 0).den:Nat):Int)else 0)/\Kept (λk=>k=gO) Wo wr)
     case atStart=>exact⟨0,Qg t 0,by omega,rfl,hO.out,Zb Gh,Zb (λy=>by rw[Gw (QH y),List.getElem?_replicate];split <;> rfl),Qm _ _⟩
     case round =>
      obtain⟨x,q3,K3,rfl,r9,O,C6,f8⟩:=hrel;have J4:=D1.out;have l3:Below gd V wr:=D9.out.trans (f8.to_below (λk hk=>by omega) (QB v6.out.lt));have U:=f8.blk v6.out Gk;have d7:=f8.wd G1.out B3.out;have e6:Below w.heap.size w wr:=s6.out.trans (f8.to_below (λk hk=>by have:=v7.out;omega) s6.out.size);cases gk with
      | zero =>
       obtain rfl:x=t:=Gk;have t3:decide ((x:Int)<(x:Int))=false:=Gh;obtain⟨mM,mP,m3,mK⟩:=J5.out wr l3
       have F0:Hid (q3=Zdr row):=Zb (by
        apply Qu;intro y;have h1:=C6.out y;by_cases hy:y<x
        ·rw[Gx hy]at h1
         rw[Qh (by rw[O.out];exact hy)]at h1 ⊢;unfold Zdr;have C2:y<row.length:=by rw[r7.out];exact hy
         rw[QD,Qh C2];simp only[QG,Option.map_some]at h1 ⊢;rw[h1,Qh C2,r7.out];rfl
        rw[Qy (by rw[O.out];omega),Qy (by rw[Zi0,r7.out];omega)])
       have w6:EnvW 158 30 167 wr g3 gd gO W0.heap.size v1 v2 L ((Qv i).map λi=>((Zc3 Q i:Nat):Int)) dn dA dk dc ((Za4 row x:Nat):Int) q3:=
        ⟨mM,⟨r9,by rw[O.out];unfold maxLen;omega⟩,mP,U,d7,m3,⟨by omega,by have:=t5.out;omega⟩,λs hs e=>by have:=F1.out s hs;omega,λe=>by have:=G7.out _ e;omega,t0.out⟩
       have K9:L.length=i:=by
        have h1:(L.map RZ.q).length=((Q.take i).map Zdr).length:=by rw[B8.out]
        rw[Qf,Qf,List.length_take,hl.out]at h1;omega
       have a0:(L.map RZ.rs).length+1<=1000:=by rw[Qf];omega
       have x0:((Qv i).map λi=>((Zc3 Q i:Nat):Int)).length+1<=1000:=by rw[Qf,List.length_range];omega
       have c7:(158:TypeId)≠167:=Gi;replace w6:=Zb w6;replace mK:=Zb mK;replace O:=Zb O.out;clear mM mP m3 r9 U d7 l3 e6 f8;go_wp2_with fail;obtain⟨X0,r3⟩:=Gz wr.drew;have o6:Below wr.heap.size wr X0:=by rw[<- r3];exact Zg (Qc _ _) 1
       have hE:=w6.out.below o6;have y8:Kept (λk=>k=g3) W0 X0:=mK.out.below o6;have z7:wr.drew.cell? ⟨g3,0,none⟩=some v1/\wr.drew.cell? ⟨g3,1,none⟩=some v2:=by rw[r3];exact hE.cells
       refine Zad [11,13] (λwx=>wx.cell? ⟨g3,0,none⟩=some v1/\wx.cell? ⟨g3,1,none⟩=some v2) hmx z7 (λhxs9=>?_);refine Zin 5 [0,1,2,5,6] rfl Gj z7 ?_
       iterate 5 (refine tkA ?_;try simp only[Qa,Zf6,Zfl,Zfx,Gr,Gq,Gp])
       refine tk0 ?_;rw[r3];clear z7 hxs9 o6 r3;have G9:=hE.1.1;have J0:=hE.2.2.1;have s5:=hE.2.2.2.2.2.2.1.1;have E5:=hE;clear E5;refine Zeq (i:=3) (j:=7) rfl rfl Gj (λK hK=>?_) (λK hK=>?_)
       focus
        obtain⟨Y1,q7⟩:∃ Y,X0.alloc (.cells #[.slice (some ⟨gO,0,none⟩) x x] 158)=Y:=⟨_,rfl⟩;obtain⟨q4,m8⟩:=Gz X0.heap.size;have v4:Below X0.heap.size X0 Y1:=by rw[<- q7];exact(Qc _ _).alloc (Qb _) _
        have l8:Blk Y1 q4 158 #[.slice (some ⟨gO,0,none⟩) x x]:=by rw[<- q7,<- m8];exact Qq _ _ _
        have J:=hE.below v4;have e1:=y8.below v4;go_simp;(try rw[q7]);(try rw[m8]);refine hK.out _ _ (λ_=>J.cells) ?_;clear hK K q7 m8
        try simp only[Qa,Zf6,Zfl,Zfx]
        refine Zeq (i:=4) (j:=7) rfl rfl Gj (λK hK=>?_) (λK hK=>?_)
        focus
         rw[Gx Gc];refine Zcq _ (.tmp 63) (.tmp 65) 165 rfl W0.heap.size 158 iS Tryz.underlying165 ki k6 j7 k8 v1 (L.map RZ.rs) rfl J.1.1 _ (some ⟨q4,0,none⟩) 1 1 [⟨some ⟨gO,0,none⟩,x,x⟩] rfl (Zd3 l8) rfl a0 e1.size ?_;intro I3 Y4 E8 t9 G3;have e4:=J.app c4 c7 (by simp only[RZ.rs,O.out];exact E8) t9 G3;have G5:=e1.grownG t9 (λk hk=>J.1.1.row_ge k hk);refine hK.out _ _ (λ_=>e4.cells) ?_;clear hK K
         try simp only[Qa,Zf6,Zfl,Zfx]
         refine Zfm 1 [10] rfl Gj e4.cells ?_
         (refine tkA ?_;try simp only[Qa,Zf6,Zfl,Zfx,Gr,Gq,Gp])
         refine tk0 ?_;refine wpAnyL_o 7 λK hK=>?_;obtain⟨H0,I2,-,-⟩:=Blk.two (e4.2.2.1);go_simp;refine hK.out _ _ (λ_=>e4.cells) ?_;clear hK K H0 I2
         try simp only[Qa,Zf6,Zfl,Zfx]
         refine wpAnyL_o 8 λK hK=>?_;obtain⟨Y6,p9⟩:=Gz (Y4.alloc (.cells #[.bool dn,.slice dA dk dc] 30));obtain⟨F6,l6⟩:=Gz Y4.heap.size;have v5:Below Y4.heap.size Y4 Y6:=by rw[<- p9];exact(Qc _ _).alloc (Qb _) _
         have C3:Blk Y6 F6 30 #[.bool dn,.slice dA dk dc]:=by rw[<- p9,<- l6];exact Qq _ _ _
         have t6:=e4.below v5;have E6:=G5.below v5;go_simp;(try rw[p9]);(try rw[l6]);refine hK.out _ _ (λ_=>t6.cells) ?_;clear hK K p9 l6
         try simp only[Qa,Zf6,Zfl,Zfx]
         have EL:=t6;have KL:=E6;have bL:=C3;obtain⟨vL,rfl⟩:∃ x:Value,x=I3:=⟨_,rfl⟩;obtain⟨gL,rfl⟩:∃ x:Nat,x=F6:=⟨_,rfl⟩;obtain⟨WL,rfl⟩:=Gy Y6
        rotate_left 1
        focus
         obtain⟨I0,J9,-,-⟩:=Blk.two (J.2.2.2.1);go_simp;refine hK.out _ _ (λ_=>J.cells) ?_;clear hK K I0 J9
         try simp only[Qa,Zf6,Zfl,Zfx]
         refine Zeq (i:=4) (j:=8) rfl rfl Gj (λK hK=>?_) (λK hK=>?_)
         focus
          rw[Gx Gc];refine Zcq _ (.tmp 63) (.tmp 65) 165 rfl W0.heap.size 158 iS Tryz.underlying165 ki k6 j7 k8 v1 (L.map RZ.rs) rfl J.1.1 _ (some ⟨q4,0,none⟩) 1 1 [⟨some ⟨gO,0,none⟩,x,x⟩] rfl (Zd3 l8) rfl a0 e1.size ?_;intro C5 r8 v9 n4 w4;have f9:=J.app c4 c7 (by simp only[RZ.rs,O.out];exact v9) n4 w4;have A7:=e1.grownG n4 (λk hk=>J.1.1.row_ge k hk);refine hK.out _ _ (λ_=>f9.cells) ?_;clear hK K
          try simp only[Qa,Zf6,Zfl,Zfx]
          refine Zfm 1 [10] rfl Gj f9.cells ?_
          (refine tkA ?_;try simp only[Qa,Zf6,Zfl,Zfx,Gr,Gq,Gp])
          refine tk0 ?_;refine wpAnyL_o 8 λK hK=>?_;obtain⟨y9,j2⟩:=Gz (r8.alloc (.cells #[.bool dn,.slice dA dk dc] 30));obtain⟨s7,i5⟩:=Gz r8.heap.size;have m0:Below r8.heap.size r8 y9:=by rw[<- j2];exact(Qc _ _).alloc (Qb _) _
          have y4:Blk y9 s7 30 #[.bool dn,.slice dA dk dc]:=by rw[<- j2,<- i5];exact Qq _ _ _
          have p6:=f9.below m0;have w3:=A7.below m0;go_simp;(try rw[j2]);(try rw[i5]);refine hK.out _ _ (λ_=>p6.cells) ?_;clear hK K j2 i5
          try simp only[Qa,Zf6,Zfl,Zfx]
          have EL:=p6;have KL:=w3;have bL:=y4;obtain⟨vL,rfl⟩:∃ x:Value,x=C5:=⟨_,rfl⟩;obtain⟨gL,rfl⟩:∃ x:Nat,x=s7:=⟨_,rfl⟩;obtain⟨WL,rfl⟩:=Gy y9
         rotate_left 1
         focus
          obtain⟨G2,j4⟩:=Gz (Y1.alloc (.cells #[.bool dn,.slice dA dk dc] 30));obtain⟨s9,g5⟩:=Gz Y1.heap.size;have h5:Below Y1.heap.size Y1 G2:=by rw[<- j4];exact(Qc _ _).alloc (Qb _) _
          have x2:Blk G2 s9 30 #[.bool dn,.slice dA dk dc]:=by rw[<- j4,<- g5];exact Qq _ _ _
          have b7:=J.below h5;have o5:=e1.below h5;have o8:=Zc h5 l8;go_simp;(try rw[j4]);(try rw[g5]);refine hK.out _ _ (λ_=>b7.cells) ?_;clear hK K j4 g5
          try simp only[Qa,Zf6,Zfl,Zfx]
          refine wpAnyL_o 4 λK hK=>?_;rw[Gx Gc];refine Zcq _ (.tmp 63) (.tmp 65) 165 rfl W0.heap.size 158 iS Tryz.underlying165 ki k6 j7 k8 v1 (L.map RZ.rs) rfl b7.1.1 _ (some ⟨q4,0,none⟩) 1 1 [⟨some ⟨gO,0,none⟩,x,x⟩] rfl (Zd3 o8) rfl a0 o5.size ?_;intro D3 I7 x1 g6 x5;have h6:=b7.app c4 c7 (by simp only[RZ.rs,O.out];exact x1) g6 x5;have x6:=o5.grownG g6 (λk hk=>b7.1.1.row_ge k hk);have j6:=b7.far c4 g6 x2;refine hK.out _ _ (λ_=>h6.cells) ?_;clear hK K
          try simp only[Qa,Zf6,Zfl,Zfx]
          refine Zfm 1 [10] rfl Gj h6.cells ?_
          (refine tkA ?_;try simp only[Qa,Zf6,Zfl,Zfx,Gr,Gq,Gp])
          refine tk0 ?_;have EL:=h6;have KL:=x6;have bL:=j6;obtain⟨vL,rfl⟩:∃ x:Value,x=D3:=⟨_,rfl⟩;obtain⟨gL,rfl⟩:∃ x:Nat,x=s9:=⟨_,rfl⟩;obtain⟨WL,rfl⟩:=Gy I7
       rotate_left 3
       focus
        obtain⟨G6,E7,-,-⟩:=Blk.two (hE.2.2.2.1);go_simp;refine hK.out _ _ (λ_=>hE.cells) ?_;clear hK K G6 E7
        try simp only[Qa,Zf6,Zfl,Zfx]
        refine Zeq (i:=3) (j:=8) rfl rfl Gj (λK hK=>?_) (λK hK=>?_)
        focus
         obtain⟨j5,i8⟩:∃ Y,X0.alloc (.cells #[.slice (some ⟨gO,0,none⟩) x x] 158)=Y:=⟨_,rfl⟩;obtain⟨l4,g9⟩:=Gz X0.heap.size;have o7:Below X0.heap.size X0 j5:=by rw[<- i8];exact(Qc _ _).alloc (Qb _) _
         have o2:Blk j5 l4 158 #[.slice (some ⟨gO,0,none⟩) x x]:=by rw[<- i8,<- g9];exact Qq _ _ _
         have b6:=hE.below o7;have i1:=y8.below o7;go_simp;(try rw[i8]);(try rw[g9]);refine hK.out _ _ (λ_=>b6.cells) ?_;clear hK K i8 g9
         try simp only[Qa,Zf6,Zfl,Zfx]
         refine Zeq (i:=4) (j:=8) rfl rfl Gj (λK hK=>?_) (λK hK=>?_)
         focus
          rw[Gx Gc];refine Zcq _ (.tmp 63) (.tmp 65) 165 rfl W0.heap.size 158 iS Tryz.underlying165 ki k6 j7 k8 v1 (L.map RZ.rs) rfl b6.1.1 _ (some ⟨l4,0,none⟩) 1 1 [⟨some ⟨gO,0,none⟩,x,x⟩] rfl (Zd3 o2) rfl a0 i1.size ?_;intro D4 q5 B9 m9 z6;have h0:=b6.app c4 c7 (by simp only[RZ.rs,O.out];exact B9) m9 z6;have y7:=i1.grownG m9 (λk hk=>b6.1.1.row_ge k hk);refine hK.out _ _ (λ_=>h0.cells) ?_;clear hK K
          try simp only[Qa,Zf6,Zfl,Zfx]
          refine Zfm 1 [10] rfl Gj h0.cells ?_
          (refine tkA ?_;try simp only[Qa,Zf6,Zfl,Zfx,Gr,Gq,Gp])
          refine tk0 ?_;refine wpAnyL_o 8 λK hK=>?_;obtain⟨y6,i9⟩:=Gz (q5.alloc (.cells #[.bool dn,.slice dA dk dc] 30));obtain⟨v3,e8⟩:=Gz q5.heap.size;have n8:Below q5.heap.size q5 y6:=by rw[<- i9];exact(Qc _ _).alloc (Qb _) _
          have z4:Blk y6 v3 30 #[.bool dn,.slice dA dk dc]:=by rw[<- i9,<- e8];exact Qq _ _ _
          have m1:=h0.below n8;have A0:=y7.below n8;go_simp;(try rw[i9]);(try rw[e8]);refine hK.out _ _ (λ_=>m1.cells) ?_;clear hK K i9 e8
          try simp only[Qa,Zf6,Zfl,Zfx]
          have EL:=m1;have KL:=A0;have bL:=z4;obtain⟨vL,rfl⟩:∃ x:Value,x=D4:=⟨_,rfl⟩;obtain⟨gL,rfl⟩:∃ x:Nat,x=v3:=⟨_,rfl⟩;obtain⟨WL,rfl⟩:=Gy y6
         rotate_left 1
         focus
          obtain⟨C7,j3⟩:=Gz (j5.alloc (.cells #[.bool dn,.slice dA dk dc] 30));obtain⟨t8,i2⟩:=Gz j5.heap.size;have g8:Below j5.heap.size j5 C7:=by rw[<- j3];exact(Qc _ _).alloc (Qb _) _
          have v8:Blk C7 t8 30 #[.bool dn,.slice dA dk dc]:=by rw[<- j3,<- i2];exact Qq _ _ _
          have b8:=b6.below g8;have m7:=i1.below g8;have k9:=Zc g8 o2;go_simp;(try rw[j3]);(try rw[i2]);refine hK.out _ _ (λ_=>b8.cells) ?_;clear hK K j3 i2
          try simp only[Qa,Zf6,Zfl,Zfx]
          refine wpAnyL_o 4 λK hK=>?_;rw[Gx Gc];refine Zcq _ (.tmp 63) (.tmp 65) 165 rfl W0.heap.size 158 iS Tryz.underlying165 ki k6 j7 k8 v1 (L.map RZ.rs) rfl b8.1.1 _ (some ⟨l4,0,none⟩) 1 1 [⟨some ⟨gO,0,none⟩,x,x⟩] rfl (Zd3 k9) rfl a0 m7.size ?_;intro E3 I6 y2 f6 B4;have i4:=b8.app c4 c7 (by simp only[RZ.rs,O.out];exact y2) f6 B4;have x9:=m7.grownG f6 (λk hk=>b8.1.1.row_ge k hk);have k2:=b8.far c4 f6 v8;refine hK.out _ _ (λ_=>i4.cells) ?_;clear hK K
          try simp only[Qa,Zf6,Zfl,Zfx]
          refine Zfm 1 [10] rfl Gj i4.cells ?_
          (refine tkA ?_;try simp only[Qa,Zf6,Zfl,Zfx,Gr,Gq,Gp])
          refine tk0 ?_;have EL:=i4;have KL:=x9;have bL:=k2;obtain⟨vL,rfl⟩:∃ x:Value,x=E3:=⟨_,rfl⟩;obtain⟨gL,rfl⟩:∃ x:Nat,x=t8:=⟨_,rfl⟩;obtain⟨WL,rfl⟩:=Gy I6
        rotate_left 2
        focus
         obtain⟨k4,j0⟩:=Gz (X0.alloc (.cells #[.bool dn,.slice dA dk dc] 30));obtain⟨s8,g7⟩:=Gz X0.heap.size;have l5:Below X0.heap.size X0 k4:=by rw[<- j0];exact(Qc _ _).alloc (Qb _) _
         have y3:Blk k4 s8 30 #[.bool dn,.slice dA dk dc]:=by rw[<- j0,<- g7];exact Qq _ _ _
         have p5:=hE.below l5;have A9:=y8.below l5;go_simp;(try rw[j0]);(try rw[g7]);refine hK.out _ _ (λ_=>p5.cells) ?_;clear hK K j0 g7
         try simp only[Qa,Zf6,Zfl,Zfx]
         refine wpAnyL_o 3 λK hK=>?_;obtain⟨F9,i6⟩:∃ Y,k4.alloc (.cells #[.slice (some ⟨gO,0,none⟩) x x] 158)=Y:=⟨_,rfl⟩;obtain⟨t4,g4⟩:=Gz k4.heap.size;have h7:Below k4.heap.size k4 F9:=by rw[<- i6];exact(Qc _ _).alloc (Qb _) _
         have x8:Blk F9 t4 158 #[.slice (some ⟨gO,0,none⟩) x x]:=by rw[<- i6,<- g4];exact Qq _ _ _
         have b9:=p5.below h7;have p7:=A9.below h7;have j8:=Zc h7 y3;go_simp;(try rw[i6]);(try rw[g4]);refine hK.out _ _ (λ_=>b9.cells) ?_;clear hK K i6 g4
         try simp only[Qa,Zf6,Zfl,Zfx]
         refine wpAnyL_o 4 λK hK=>?_;rw[Gx Gc];refine Zcq _ (.tmp 63) (.tmp 65) 165 rfl W0.heap.size 158 iS Tryz.underlying165 ki k6 j7 k8 v1 (L.map RZ.rs) rfl b9.1.1 _ (some ⟨t4,0,none⟩) 1 1 [⟨some ⟨gO,0,none⟩,x,x⟩] rfl (Zd3 x8) rfl a0 p7.size ?_;intro C8 H9 y5 f7 w8;have i0:=b9.app c4 c7 (by simp only[RZ.rs,O.out];exact y5) f7 w8;have z8:=p7.grownG f7 (λk hk=>b9.1.1.row_ge k hk);have d4:=b9.far c4 f7 j8;refine hK.out _ _ (λ_=>i0.cells) ?_;clear hK K
         try simp only[Qa,Zf6,Zfl,Zfx]
         refine Zfm 1 [10] rfl Gj i0.cells ?_
         (refine tkA ?_;try simp only[Qa,Zf6,Zfl,Zfx,Gr,Gq,Gp])
         refine tk0 ?_;have EL:=i0;have KL:=z8;have bL:=d4;obtain⟨vL,rfl⟩:∃ x:Value,x=C8:=⟨_,rfl⟩;obtain⟨gL,rfl⟩:∃ x:Nat,x=s8:=⟨_,rfl⟩;obtain⟨WL,rfl⟩:=Gy H9
       all_goals
        refine wpAnyL_o 9 λK hK=>?_;rw[Gx Gc];refine Zl0 _ (.tmp 68) (.tmp 70) 158 rfl W0.heap.size 30 iW Tryz.underlying158 hi F7 G4 D8 v2 _ rfl EL.2.1 _ (some ⟨gL,0,none⟩) 1 1 [⟨dn,dA,dk,dc,digits ((Za4 row x:Nat):Int).natAbs⟩] rfl (Zrb _ bL) rfl (by intro e he;rw[Qi]at he;subst he;exact⟨EL.2.2.2.1.2.2,EL.2.2.2.1.ok⟩) x0 KL.size ?_;intro K2 o9 C0 o3 A6 A8;obtain⟨f1,f2,f3,f4⟩:=EL.app c4 (OwnP.snoc C0 EL.2.2.2.1) o3 A6 A8;have w9:=KL.grownG o3 (λk hk=>EL.2.1.row_ge k hk);refine hK.out _ _ (λ_=>⟨by rw[f3.cell];rfl,by rw[f3.cell];rfl⟩) ?_;clear hK K
        try simp only[Qa,Zf6,Zfl,Zfx]
        obtain⟨a1,a2,a3,rfl⟩:=G9.isSlice;obtain⟨a4,a5,a6,rfl⟩:=J0.isSlice;obtain⟨a7,a8,a9,rfl⟩:=f1.1.isSlice;obtain⟨b1,b2,b3,rfl⟩:=f2.isSlice;have c9:=Zo0 (x:=.slice a7 a8 a9) (y:=.slice b1 b2 b3) f3 (λk=>by simp) (λk=>by simp) (λk=>by simp) f1 s5 f2 s5;have r2:Kept (λk=>k=g3) W0 ((o9.setCell ⟨g3,0,none⟩ (.slice a7 a8 a9)).setCell ⟨g3,1,none⟩ (.slice b1 b2 b3)):=(w9.set_ (p:=⟨g3,0,none⟩) (.inl rfl) _).set_ (p:=⟨g3,1,none⟩) (.inl rfl) _;have f5:Blk (o9.setCell ⟨g3,0,none⟩ (.slice a7 a8 a9)) g3 167 #[.slice a7 a8 a9,.slice a4 a5 a6]:=f3.set_ 0 _;have u0:o9.cell? ⟨g3,0,none⟩=some (.slice a1 a2 a3):=by rw[f3.cell];rfl
        have r6:=f3.frozen 0;have u1:(o9.setCell ⟨g3,0,none⟩ (.slice a7 a8 a9)).cell? ⟨g3,1,none⟩=some (.slice a4 a5 a6):=by rw[f5.cell];rfl
        have q8:=f5.frozen 1;obtain⟨Z9,b5⟩:∃ Z,((o9.setCell ⟨g3,0,none⟩ (.slice a7 a8 a9)).setCell ⟨g3,1,none⟩ (.slice b1 b2 b3))=Z:=⟨_,rfl⟩;rw[b5]at c9 r2;replace c9:=Zb c9;replace r2:=Zb r2;clear f1 f2 f3;refine Zr (i:=11) rfl Gj Gj (λK hK=>?_);go_simp;refine hK.out _ _ ?_;clear hK K
        try simp only[Qa,Zf6,Zfl,Zfx]
        (refine Zi (i:=12) (v:=?_) rfl Gj Gj Gj Gj (Qz ⟨by kernel_rfl,?_⟩) (λhno=>absurd hno Gi) ?_;rotate_left;(· intro W2 _;go_simp;try with_reducible rfl);try simp only[Qa,Zf6,Zfl,Zfx,Gr,Gq,Gp])
        refine Zr (i:=13) rfl Gj Gj (λK hK=>?_);go_simp;(try rw[b5]);refine hK.out _ _ ?_;clear hK K
        try simp only[Qa,Zf6,Zfl,Zfx]
        refine wpAnyL_fin ?_;clear b5 u0 r6 u1 q8 f5;go_wp2_with fail
        go_roundg (n-(i+1))
        case measure=>omega
        case rel =>
         refine⟨i+1,_,_,L ++ [⟨gO,q3⟩],by omega,by go_num,c9.out.1,c9.out.2.1,Zb ?_,?_,Zb f4,r2.out⟩
         ·rw[Qk,B8.out,List.take_add_one,Qk,Qh (by rw[hl.out];exact n0)]
          congr 1;have h1:=c0.out;rw[Qh (by rw[hl.out];exact n0)]at h1;simp only[QG]at h1;simp[F0.out,h1]
         rw[List.range_succ,Qk];have h1:=c9.out.2.2;rw[J1.out]at h1;exact h1
      | succ j =>
       obtain rfl:j=t-(x+1):=Gk;have s4:x<t:=Gk;have t3:decide ((x:Int)<(t:Int))=true:=Gv Gk;have bx:(x:Int)<(t:Int):=Gk;obtain⟨g1,o1,na,A2,n2,c2,nb,B2,m2,d2,rfl,h4,g2⟩:=(hF.out.below e6).at_ s4;obtain⟨p0,p1,p2,p3⟩:=h4;obtain⟨f,hf⟩:∃ X:Rat,row[x]?.getD 0=X:=⟨_,rfl⟩;rw[hf]at g2;have G0:Hid (((f.den:Nat):Int)≠0):=Zb (by have:=f.den_pos;omega)
       have B1:Hid ((f.num*Qw ((Za4 row t:Nat):Int) ((f.den:Nat):Int)).natAbs<pw 4096):=Zb (by
        rw[Zix]
        have h1:((Za4 row t/f.den:Nat):Int).natAbs<pw 1000:=by
         rw[Ql];exact Qt (Nat.div_le_self _ _) (c8.out t (Qb t))
        have h2:f.num.natAbs<pw 1000:=by rw[<- hf];exact x4.out x
        exact Qd (Zh5 h2 h1) (Zbm Gi))
       obtain⟨gf,i3⟩:=Gz wr.heap.size;obtain⟨Vf,l2,c6,qf,kW,kB,sf⟩:=Zap 32 #[.bool na,.slice A2 n2 c2,.bool nb,.slice B2 m2 d2] (Qc wr.heap.size wr) (Qb _);have e9:=g2.below c6;have l0:=d7.below c6;have b4:=U.below c6 U.lt;have e7:=r9.below c6;rw[i3]at qf;obtain⟨s0,s1,s2,s3,-⟩:=qf.four;obtain⟨r0,r1,-,-⟩:=b4.two;obtain⟨n5,A5,k5,c5,u0,u1,-⟩:=e7.at_ (i:=x) (by rw[O.out];exact s4);have r6:=e7.frozen (x*2);have q8:=e7.frozen (x*2+1);have B5:Hid (Kept (λk=>k=gO) Wo Vf):=Zb (f8.below c6);replace e7:=Zb e7;replace hf:=Zb hf;clear g2 d7 U kW kB sf f8 qf b4 r9 l3 e6;go_wp2_with fail;(try rw[i3]);(try rw[l2]);clear l2 p0 p1 p2 p3;have C:Hid (∀ wx,Below Vf.heap.size Vf wx->wx.cell? ⟨gf,0,none⟩=some (.bool na)/\wx.cell? ⟨gf,1,none⟩=some (.slice A2 n2 c2)/\wx.cell? ⟨gf,2,none⟩=some (.bool nb)/\wx.cell? ⟨gf,3,none⟩=some (.slice B2 m2 d2)/\wx.cell? ⟨gd,0,none⟩=some (.bool dn)/\wx.cell? ⟨gd,1,none⟩=some (.slice dA dk dc)):=Zb (λwx hbx=>⟨Za hbx s0,Za hbx s1,Za hbx s2,Za hbx s3,Za hbx r0,Za hbx r1⟩);have I:Below Vf.heap.size Vf Vf.drew:=Zg (Qc _ _) 1;refine wp_heldS [10] hmx C I (λhxs9=>?_);refine Zfm 2 [0,1] rfl Gj (C.out _ I) ?_
       iterate 2 (refine tkA ?_;try simp only[Qa,Zf6,Zfl,Zfx,Gr,Gq,Gp])
       refine tk0 ?_;refine Zin 5 [2,3,4,5,6] rfl Gj (C.out _ I) ?_
       iterate 5 (refine tkA ?_;try simp only[Qa,Zf6,Zfl,Zfx,Gr,Gq,Gp])
       refine tk0 ?_;refine wpAnyL_o 7 λK hK=>?_;go_simp;refine(Znw dn nb dA B2 dk dc m2 d2 _ _ Vf.drew (l0.below I) (e9.2.below I) G0.out).mono ?_;rintro e x3 ⟨d9,z5,w5,B7,A4,rfl,d8⟩;have E:=Gs I d9;refine hK.out _ _ (λ_=>C.out _ E) ?_;clear hK K
       try simp only[Qa,Zf6,Zfl,Zfx]
       refine wpAnyL_o 8 λK hK=>?_;go_simp;refine(Zhd na z5 A2 w5 n2 c2 B7 A4 _ _ x3 (e9.1.below E) d8 B1.out).mono ?_;rintro e z3 ⟨e3,o4,m4,o0,l7,rfl,e2⟩;have o:=Gs E e3;refine hK.out _ _ (λ_=>C.out _ o) ?_;clear hK K
       try simp only[Qa,Zf6,Zfl,Zfx]
       refine Zfm 1 [9] rfl Gj (C.out _ o) ?_
       (refine tkA ?_;try simp only[Qa,Zf6,Zfl,Zfx,Gr,Gq,Gp])
       refine tk0 ?_;have C1:=e7.out.below o;obtain⟨Z9,b5⟩:∃ W,(z3.setCell ⟨gO,x*2,none⟩ (.bool o4)).setCell ⟨gO,x*2+1,none⟩ (.slice m4 o0 l7)=W:=⟨_,rfl⟩;have w7:Hid (Kept (λk=>k=gO) Wo Z9):=Zb (by rw[<- b5];exact((B5.out.below o).set_ (p:=⟨gO,x*2,none⟩) (.inl rfl) _).set_ (p:=⟨gO,x*2+1,none⟩) (.inl rfl) _);have H1:Hid (POwn 30 Z9 gO (q3.set x (f.num*Qw ((Za4 row t:Nat):Int) ((f.den:Nat):Int)))):=Zb (by rw[<- b5];exact C1.set_ (by rw[O.out];exact s4) e2);have g0:=Za o u0;have J8:=Za o u1;have f0:=Zl o u0 r6;have f1:=Zl o u1 q8;clear C1;refine Zr (i:=10) rfl Gj Gj (λK hK=>?_);go_simp;(try rw[b5]);refine hK.out _ _ ?_;clear hK K
       try simp only[Qa,Zf6,Zfl,Zfx]
       refine wpAnyL_fin ?_;clear b5 f0 f1 g0 J8 d9 e3 I E o C hxs9 r0 r1 s0 s1 s2 s3 d8 e2 l0 e9 e7 u0 u1 r6 q8;go_wp2_with fail
       go_roundg (t-(x+1))
       case measure=>omega
       case rel =>
        refine⟨x+1,_,by omega,by go_num,H1.out,Zb (by rw[Qr];exact O.out),Zb (λy=>?_),w7.out⟩;rw[Qe];by_cases hy:x=y
        ·subst hy
         rw[Gx rfl,Gx (by rw[O.out];exact s4),Gx Gk,Zix,hf.out];rfl
        rw[Gw hy,C6.out y];by_cases h1:y<x;rw[Gx h1,Gx Gk];rw[Gw h1,Gw Gk]
    | succ j =>
     obtain rfl:j=n1-(t+1):=Gk;have J7:t<n1:=Gk;have t2:decide ((t:Int)<(n1:Int))=true:=Gv Gk;have bt:(t:Int)<(n1:Int):=Gk;obtain⟨g1,o1,na,A2,n2,c2,nb,B2,m2,d2,rfl,h4,g2⟩:=(hF.out.below e6).at_ J7;obtain⟨p0,p1,p2,p3⟩:=h4;obtain⟨f,hf⟩:∃ X:Rat,row[t]?.getD 0=X:=⟨_,rfl⟩;rw[hf]at g2;have K4:f.den<pw 1000:=by rw[<- hf];exact Qt (Zob row (Qx t)) (c8.out (t+1) Gk)
     have l9:Hid (Za4 row (t+1)=Za4 row t*(f.den/QC (Za4 row t) f.den)):=Zb (by rw[<- hf];rfl);have I8:0<QC (Za4 row t) f.den:=Nat.gcd_pos_of_pos_left _ (Zd0 row t)
     have J3:Hid (((QC (Za4 row t) f.den:Nat):Int).natAbs<pw 4096):=Zb (by
      rw[Ql];exact Qt (Nat.le_of_dvd (Zd0 row t) (Nat.gcd_dvd_left _ _)) (Qd (c8.out t Gk) (Zbm Gi)))
     obtain⟨gf,i3⟩:=Gz wr.heap.size;obtain⟨Vf,l2,c6,qf,kW,kB,sf⟩:=Zap 32 #[.bool na,.slice A2 n2 c2,.bool nb,.slice B2 m2 d2] (Qc wr.heap.size wr) (Qb _);have e9:=g2.below c6;have l0:=d7.below c6;have b4:=U.below c6 U.lt;rw[i3]at qf;obtain⟨s0,s1,s2,s3,-⟩:=qf.four;obtain⟨r0,r1,-,-⟩:=b4.two;have B5:Hid (Kept (λk=>k=gd) V Vf):=Zb (n7.below c6);replace qf:=Zb qf;replace b4:=Zb b4;replace hf:=Zb hf;clear g2 d7 U kW kB sf n7;go_wp2_with fail;(try rw[i3]);(try rw[l2]);refine(Zny dn nb dA B2 dk dc m2 d2 _ _ Vf l0 e9.2).mono ?_;rw[Ql,Ql];rintro e w2 ⟨j9,n3,A3,k3,c3,code,rfl,hR⟩;have hG:=hR.small J3.out;have z9:=Zc j9 qf.out;have x7:=Zc j9 b4.out;have F2:=l0.below j9;have D2:=e9.2.below j9;have E9:Hid (Kept (λk=>k=gd) V w2):=Zb (B5.out.below j9);clear s0 s1 s2 s3 r0 r1 l0 e9 qf b4 j9 hR l2 p0 p1 p2 p3;obtain⟨gc,q2⟩:=Gz w2.heap.size;obtain⟨Vc,C4,h9,qc,kW,kB,sc⟩:=Zap 30 #[.bool n3,.slice A3 k3 c3] (Qc w2.heap.size w2) (Qb _);have E1:=hG.below h9;have E0:=F2.below h9;have F5:=D2.below h9;have E2:=z9.below h9 z9.lt;have k7:=x7.below h9 x7.lt;have J6:Hid (Kept (λk=>k=gd) V Vc):=Zb (E9.out.below h9);rw[q2]at qc;obtain⟨-,-,s2,s3,-⟩:=E2.four;obtain⟨r0,r1,C9,E4⟩:=k7.two;obtain⟨y0,y1,-,-⟩:=qc.two;have B6:Hid (((QC (Za4 row t) f.den:Nat):Int)≠0):=Zb Gk
     have B1:Hid ((((Za4 row t:Nat):Int)*Qw ((f.den:Nat):Int) ((QC (Za4 row t) f.den:Nat):Int)).natAbs<pw 4096):=Zb (by
      rw[Zix,<- QJ,<- l9.out,Ql];exact Qd (c8.out (t+1) Gk) (Zbm Gi))
     replace k7:=Zb k7;clear hG F2 D2 z9 x7 E2 qc kW kB sc h9 E9;go_wp2_with fail;(try rw[q2]);(try rw[C4]);replace i3:=Zb i3;replace q2:=Zb q2;clear C4;have C:Hid (∀ wx,Below Vc.heap.size Vc wx->wx.cell? ⟨gd,0,none⟩=some (.bool dn)/\wx.cell? ⟨gd,1,none⟩=some (.slice dA dk dc)/\wx.cell? ⟨gf,2,none⟩=some (.bool nb)/\wx.cell? ⟨gf,3,none⟩=some (.slice B2 m2 d2)/\wx.cell? ⟨gc,0,none⟩=some (.bool n3)/\wx.cell? ⟨gc,1,none⟩=some (.slice A3 k3 c3)):=Zb (λwx hbx=>⟨Za hbx r0,Za hbx r1,Za hbx s2,Za hbx s3,Za hbx y0,Za hbx y1⟩);have I:Below Vc.heap.size Vc Vc.drew:=Zg (Qc _ _) 1;refine wp_heldS [6] hmx C I (λhxs9=>?_);refine Zin 4 [0,1,2,3] rfl Gj (C.out _ I) ?_
     iterate 4 (refine tkA ?_;try simp only[Qa,Zf6,Zfl,Zfx,Gr,Gq,Gp])
     refine tk0 ?_;refine wpAnyL_o 4 λK hK=>?_;go_simp;refine(Znw nb n3 B2 A3 m2 d2 k3 c3 _ _ Vc.drew (F5.below I) (E1.below I) B6.out).mono ?_;rintro e x3 ⟨d9,z5,w5,B7,A4,rfl,d8⟩;have E:=Gs I d9;refine hK.out _ _ (λ_=>C.out _ E) ?_;clear hK K
     try simp only[Qa,Zf6,Zfl,Zfx]
     refine wpAnyL_o 5 λK hK=>?_;go_simp;refine(Zhd dn z5 dA w5 dk dc B7 A4 _ _ x3 (E0.below E) d8 B1.out).mono ?_;rintro e z3 ⟨e3,o4,m4,o0,l7,rfl,e2⟩;have o:=Gs E e3;refine hK.out _ _ (λ_=>C.out _ o) ?_;clear hK K
     try simp only[Qa,Zf6,Zfl,Zfx]
     obtain⟨Z9,b5,H3,q9,st⟩:=Zbt (B:=gd) o4 m4 o0 l7 (Qc gd z3) (Qb gd) (k7.out.below o k7.out.lt)
     have I4:Hid (Wd Z9 o4 m4 o0 l7 ((Za4 row (t+1):Nat):Int)):=Zb (by
      have h1:=st.1 _ _ _ _ _ e2;rw[Zix,<- QJ,<- l9.out]at h1;exact h1)
     have w7:Hid (Kept (λk=>k=gd) V Z9):=Zb (by rw[<- b5];exact((J6.out.below o).set_ (p:=⟨gd,0,none⟩) (.inl rfl) _).set_ (p:=⟨gd,1,none⟩) (.inl rfl) _);have g0:=Za o r0;have g1:=Za o r1;have f0:=Zl o r0 C9;have f1:=Zl o r1 E4;refine Zr (i:=6) rfl Gj Gj (λK hK=>?_);go_simp;(try rw[b5]);refine hK.out _ _ ?_;clear hK K
     try simp only[Qa,Zf6,Zfl,Zfx]
     refine wpAnyL_fin ?_;clear b5 f0 f1 g0 g1 d9 e3 I E o C hxs9 r0 r1 C9 E4 s2 s3 y0 y1 d8 e2 st H3 E1 E0 F5 k7;go_wp2_with fail
     go_roundg (n1-(t+1))
     case measure=>omega
     case rel=>exact⟨t+1,o4,m4,o0,l7,by omega,by go_num,q9,I4.out,w7.out⟩
