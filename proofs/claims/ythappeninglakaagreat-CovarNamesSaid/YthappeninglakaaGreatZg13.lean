/- Package linear: the exchange of two rows. Package linear: -/
import Derived.ScopeJumps
import Derived.WalkMore
import Derived.Test.YthappeninglakaaGreatZg10
set_option maxRecDepth 100000
set_option maxHeartbeats 16000000
set_option linter.unusedSimpArgs false
set_option linter.unusedVariables false
namespace Go.Proofs.YthappeninglakaaGreat
open Go.RowKit
open Act renaming put→Qa
open Nat renaming le_refl→Qb,lt_of_lt_of_le→Qf,add_sub_cancel'→Qr,le_trans→Qs,lt_of_le_of_lt→Qy,lt_succ_self→QC,zero_add→QF,le_of_lt→QG,gcd→QH,zero_le→QK,not_lt_zero→QL
open List renaming getElem?_eq_getElem→Qc,map_append→Qd,mem_singleton→Qg,getElem?_set→Qh,length_map→Qi,replicate→Qj,take_add_one→Qm,length_append→Qo,range_succ→Qp,length_set→Qw,ext_getElem?→Qz,range→QA,getElem?_eq_none→QE,getElem?_map→QI,append_assoc→QJ,nil_append→QM
open Below renaming refl→Qe
open Ne renaming symm→Qk
open Option renaming getD_some→Ql
open Kept renaming refl→Qn
open Int renaming natAbs_natCast→Qq,fdiv→QB,natCast_mul→QN
open Builtin renaming zeroCells→Qt,append_→QD
open Or renaming inl→Qu
open Blk renaming new→Qv
open _root_.Array renaming toList_append→Qx
attribute [local go_sem] Zg
theorem Zfp{v:Value}(h:∀ x,v≠limb x):NoLimb #[v]:=λi x=>by
 match i with
 | 0=>simpa using h x
 | i+1=>simp
theorem Z0x(gg gr ga gn go n cap q r:Nat)(ng:Bool)(vby:Value)(L:List RZ)(w:World)(h1:Blk w gg 152 #[.slice (some ⟨go,0,none⟩) n cap,vby])(h2:Blk w gr 3 #[.int .i64 r])(h3:Blk w ga 3 #[.int .i64 q])(h4:Blk w gn 4 #[.bool ng])
    (hM:MatZ 150 39 w go L) (hn:L.length=n) (hq:q<n) (hr:r<n) (hqr:q≠r) (hd:gg≠go/\gr≠go/\ga≠go/\gn≠go) :
    Calls Tryz.prog 175 #[.pointer (some ⟨gg,0,none⟩),.pointer (some ⟨gr,0,none⟩),.pointer (some ⟨ga,0,none⟩),.pointer (some ⟨gn,0,none⟩)] w λe w'=>e=.returned (.tuple #[]) /\
     MatZ 150 39 w' go (Zai L q r)/\Blk w' gn 4 #[.bool (!ng)]/\Kept (λk=>k=go \/ k=gn) w w':=by
 have hmx:=Gt
 obtain⟨x,hx⟩:=Zcr (L:=L) (i:=q) (by omega);obtain⟨y,hy⟩:=Zcr (L:=L) (i:=r) (by omega);obtain⟨cx,zx⟩:=hM.cell hx;obtain⟨cy,zy⟩:=hM.cell hy;have c1:w.cell? ⟨gg,0,none⟩=some (.slice (some ⟨go,0,none⟩) n cap):=by rw[h1.cell];rfl
 have c2:w.cell? ⟨gr,0,none⟩=some (.int .i64 r):=by rw[h2.cell];rfl
 have c3:w.cell? ⟨ga,0,none⟩=some (.int .i64 q):=by rw[h3.cell];rfl
 have bq:(q:Int)<(n:Int):=by omega
 have br:(r:Int)<(n:Int):=by omega
 obtain⟨zs,u⟩:=hM.1;have h:Blk (w.setCell ⟨go,q,none⟩ (.slice (some ⟨y.g,0,none⟩) y.q.length y.q.length)) go 150 _:=u.set_ q (.slice (some ⟨y.g,0,none⟩) y.q.length y.q.length);have g1:(w.setCell ⟨go,q,none⟩ (.slice (some ⟨y.g,0,none⟩) y.q.length y.q.length)).cell? ⟨gg,0,none⟩=some (.slice (some ⟨go,0,none⟩) n cap):=by rw[(h1.far hd.1 _).cell];rfl
 have g2:(w.setCell ⟨go,q,none⟩ (.slice (some ⟨y.g,0,none⟩) y.q.length y.q.length)).cell? ⟨gr,0,none⟩=some (.int .i64 r):=by rw[(h2.far hd.2.1 _).cell];rfl
 have g3:(w.setCell ⟨go,q,none⟩ (.slice (some ⟨y.g,0,none⟩) y.q.length y.q.length)).cell? ⟨ga,0,none⟩=some (.int .i64 q):=by rw[(h3.far hd.2.2.1 _).cell];rfl
 have g4:(w.setCell ⟨go,q,none⟩ (.slice (some ⟨y.g,0,none⟩) y.q.length y.q.length)).cell? ⟨go,r,none⟩=some (.slice (some ⟨y.g,0,none⟩) y.q.length y.q.length):=by
  rw[h.cell,Array.getElem?_setIfInBounds,Gw hqr,<- u.cell];exact cy
 have z4:=h.frozen r;obtain⟨V,hV⟩:∃ V,((w.setCell ⟨go,q,none⟩ (.slice (some ⟨y.g,0,none⟩) y.q.length y.q.length)).setCell ⟨go,r,none⟩ (.slice (some ⟨x.g,0,none⟩) x.q.length x.q.length)).drew=V:=⟨_,rfl⟩;have J:Hid (MatZ 150 39 V go (Zai L q r)):=Za (by rw[<- hV];exact(hM.swap hx hy).below (Zf (Qe _ _) 1));have f:Blk V gn 4 #[.bool ng]:=by rw[<- hV];exact(h4.far hd.2.2.2 _).far hd.2.2.2 _
 have a1:Hid (Kept (λk=>k=go \/ k=gn) w V):=Za (by
  rw[<- hV];exact(((Qn _ w).set_ (p:=⟨go,q,none⟩) (.inl (.inl rfl)) _).set_ (p:=⟨go,r,none⟩) (.inl (.inl rfl)) _).drewN 1)
 have c5:V.cell? ⟨gn,0,none⟩=some (.bool ng):=by rw[f.cell];rfl
 have z5:=f.frozen 0;replace f:=Za f;replace u:=Za u;replace h:=Za h;clear hM h1 h2 h3 h4;go_enter Tryz.func175,Tryz.ntmps175;go_wp2_with fail;have o:w.drew.cell? ⟨gg,0,none⟩=some (.slice (some ⟨go,0,none⟩) n cap)/\w.drew.cell? ⟨gr,0,none⟩=some (.int .i64 r)/\w.drew.cell? ⟨ga,0,none⟩=some (.int .i64 q)/\w.drew.cell? ⟨go,r,none⟩=some (.slice (some ⟨y.g,0,none⟩) y.q.length y.q.length):=⟨c1,c2,c3,cy⟩;have I:(w.setCell ⟨go,q,none⟩ (.slice (some ⟨y.g,0,none⟩) y.q.length y.q.length)).drew.cell? ⟨gg,0,none⟩=some (.slice (some ⟨go,0,none⟩) n cap)/\(w.setCell ⟨go,q,none⟩ (.slice (some ⟨y.g,0,none⟩) y.q.length y.q.length)).drew.cell? ⟨gr,0,none⟩=some (.int .i64 r)/\(w.setCell ⟨go,q,none⟩ (.slice (some ⟨y.g,0,none⟩) y.q.length y.q.length)).drew.cell? ⟨ga,0,none⟩=some (.int .i64 q)/\(w.setCell ⟨go,q,none⟩ (.slice (some ⟨y.g,0,none⟩) y.q.length y.q.length)).drew.cell? ⟨go,r,none⟩=some (.slice (some ⟨y.g,0,none⟩) y.q.length y.q.length):=⟨g1,g2,g3,g4⟩;refine Z7 [19] (λwx=>wx.cell? ⟨gg,0,none⟩=some (.slice (some ⟨go,0,none⟩) n cap)/\wx.cell? ⟨gr,0,none⟩=some (.int .i64 r)/\wx.cell? ⟨ga,0,none⟩=some (.int .i64 q)/\wx.cell? ⟨go,r,none⟩=some (.slice (some ⟨y.g,0,none⟩) y.q.length y.q.length)) hmx o (λhxs=>?_);refine Zjw 15 [0,1,2,3,4,5,6,7,8,9,10,11,12,13,14] rfl (by kernel_rfl) o ?_
 iterate 15 (refine tkA ?_;try simp only[Qa,Zg4,Zgk,Zgx,Gr,Gq,Gp])
 refine tk0 ?_;have a0:w.drew.cell? ⟨go,q,none⟩=some (.slice (some ⟨x.g,0,none⟩) x.q.length x.q.length):=cx;have Y:w.drew.frozen? ⟨go,q,none⟩=false:=zx;refine wpAnyL_o 15 λK hK=>?_;go_simp;refine hK.out _ _ (λ_=>o) ?_;clear hK K
 try simp only[Qa,Zg4,Zgk,Zgx]
 refine Zgl 1 [16] rfl (by kernel_rfl) o ?_
 (refine tkA ?_;try simp only[Qa,Zg4,Zgk,Zgx,Gr,Gq,Gp])
 refine tk0 ?_;refine wpAnyL_o 17 λK hK=>?_;go_simp;refine hK.out _ _ (λ_=>I) ?_;clear hK K
 try simp only[Qa,Zg4,Zgk,Zgx]
 refine Zgl 1 [18] rfl (by kernel_rfl) I ?_
 (refine tkA ?_;try simp only[Qa,Zg4,Zgk,Zgx,Gr,Gq,Gp])
 refine tk0 ?_;refine Zm (i:=19) rfl (by kernel_rfl) (by kernel_rfl) (λK hK=>?_);go_simp;(try rw[hV]);refine hK.out _ _ ?_;clear hK K
 try simp only[Qa,Zg4,Zgk,Zgx]
 refine wpAnyL_fin ?_;clear hV o I hxs a0 Y g1 g2 g3 g4 z4 c1 c2 c3 cx cy zx zy;obtain⟨V2,C⟩:∃ V2,V.setCell ⟨gn,0,none⟩ (.bool (!ng))=V2:=⟨_,rfl⟩;have T:Hid (Blk V2 gn 4 #[.bool (!ng)]):=Za (by rw[<- C];exact f.out.set_ 0 (.bool (!ng)))
 have O:Hid (MatZ 150 39 V2 go (Zai L q r)):=Za (by
  rw[<- C];have a2:Kept (λk=>k=gn) V (V.setCell ⟨gn,0,none⟩ (.bool (!ng))):=(Qn (λk=>k=gn) V).set_ (p:=⟨gn,0,none⟩) (.inl rfl) _;refine J.out.keptG a2 (λe=>hd.2.2.2 e.symm) (λs hs e=>?_) (λk hk=>⟨_,_,(hk▸f.out:Blk V k 4 #[.bool ng]),Zfp (λx=>by simp)⟩);obtain⟨es,q1,-,-⟩:=(J.out.2.1 s hs).1;rw[e]at q1;have:=q1.type f.out
  revert this;decide)
 have U:Hid (Kept (λk=>k=go \/ k=gn) w V2):=Za (by rw[<- C];exact a1.out.set_ (p:=⟨gn,0,none⟩) (.inl (.inr rfl)) _);go_wp2_with fail;(try rw[C]);go_returns;exact⟨rfl,O.out,T.out,U.out⟩
theorem Znf{f c r:Nat}{Z:List (List Int)}{ng:Bool}{last:Int}(h:r=Z.length):Zar f c r Z ng last=(Z,r,ng,last):=by
 cases f with
 | zero=>rfl
 | succ f=>unfold Zar;rw[Gx h]
theorem Zmf{f c r q:Nat}{Z:List (List Int)}{ng:Bool}{last:Int}(h:r≠Z.length)(hq:Zbo (λi=>Zah Z i c == 0) Z.length Z.length r=q)(hn:q=Z.length):Zar (f+1) c r Z ng last=Zar f (c+1) r Z ng last:=by
 show (if r=Z.length then _ else _)=_;rw[Gw h,hq,Gx hn]
theorem Zmt{f c r q:Nat}{Z:List (List Int)}{ng:Bool}{last:Int}(h:r≠Z.length)(hq:Zbo (λi=>Zah Z i c == 0) Z.length Z.length r=q)(hn:q≠Z.length):Zar (f+1) c r Z ng last=Zar f (c+1) (r+1) (Zdp (Zai Z q r) r c last) (ng != decide (q≠r)) (Zah Z q c):=by
 show (if r=Z.length then _ else _)=_;rw[Gw h,hq,Gw hn]
theorem Zyo{C m f c r:Nat}{Z:List (List Int)}{last:Int}(h:okZ C m f c r Z last):BdZ C m Z/\last≠0/\last.natAbs<C:=by
 cases f with
 | zero=>exact h
 | succ f=>exact⟨h.1,h.2.1⟩
theorem Zr5{C m f c r q:Nat}{Z:List (List Int)}{last:Int}(h:okZ C m (f+1) c r Z last)(h0:r≠Z.length)(hq:Zbo (λi=>Zah Z i c == 0) Z.length Z.length r=q)(hn:q=Z.length):okZ C m f (c+1) r Z last:=by
 rcases h.2.2 with h1|h1;exact absurd h1 h0;exact h1.1 (by rw[hq];exact hn)
theorem Zr2{C m f c r q:Nat}{Z:List (List Int)}{last:Int}(h:okZ C m (f+1) c r Z last)(h0:r≠Z.length)(hq:Zbo (λi=>Zah Z i c == 0) Z.length Z.length r=q)(hn:q≠Z.length):okZ C m f (c+1) (r+1) (Zdp (Zai Z q r) r c last) (Zah Z q c):=by
 rcases h.2.2 with h1|h1;exact absurd h1 h0
 ·have:=h1.2 (by rw[hq];exact hn)
  rw[hq]at this;exact this
def ClzTo(L L2:List RZ)(r col:Nat)(last:Int)(i:Nat):Prop:=∀ j,j<L.length->Zaz L2 j=if j<=r \/ i<=j then Zaz L j else Zq4 (Zaz L r) (Zaz L j) col ((Zaz L r)[col]?.getD 0) last
theorem ClzTo.step{L L2:List RZ}{r col i:Nat}{last:Int}{x:RZ}(h:ClzTo L L2 r col last i)(hl:L2.length=L.length)(hi:i<L.length)(hri:r<i)(hx:x.q=Zq4 (Zaz L r) (Zaz L i) col ((Zaz L r)[col]?.getD 0) last):ClzTo L (L2.set i x) r col last (i+1):=by
 intro j hj;rw[Zwa (by omega),h j hj];by_cases hji:j=i;subst hji;rw[Gx rfl,hx,Gw (by omega)]
 ·rw[Gw hji]
  by_cases h1:j<=r \/ i<=j;rw[Gx h1,Gx (by omega)];rw[Gw h1,Gw (by omega)]
theorem ClzTo.pass{L L2:List RZ}{r col i:Nat}{last:Int}(h:ClzTo L L2 r col last i)(hri:i<=r):ClzTo L L2 r col last (i+1):=by
 intro j hj;rw[h j hj];by_cases h1:j<=r \/ i<=j;rw[Gx h1,Gx (by omega)];rw[Gw h1,Gw (by omega)]
theorem ClzTo.done{L L2:List RZ}{r col:Nat}{last:Int}(h:ClzTo L L2 r col last L.length)(hl:L2.length=L.length):L2.map RZ.q=Zdp (L.map RZ.q) r col last:=by
 refine Zzp (by rw[Zix];simpa using hl) (λi hi=>?_);rw[Zix,Qi]at hi;rw[h i hi,Zs2 (by simpa using hi),<- Zki,<- Zki,Zj9];by_cases h1:i<=r;rw[Gx (Qu h1),Gx h1];rw[Gw (by omega),Gw h1]
theorem Exit.jump_mono{l:Nat}{J J':Act->World->Prop}{Q:Exit->Act->World->Prop}(h:∀ a w,J a w->J' a w):∀ e a w,Exit.jump l J Q e a w->Exit.jump l J' Q e a w:=λe a w he=>by
 cases e <;> first|exact he|exact⟨he.1,h _ _ he.2⟩
theorem Znl{P:Program}{a:Act}{w:World}{Q:Exit->Act->World->Prop}{c rest:Code}(l:Nat)(J:Act->World->Prop)(μ:Act->World->Nat)(hf:findLabel c l=some (Code.skip.seq rest))
    (pass:∀ a w,J a w->rest.wp P (Exit.jump l (λa' w'=>J a' w'/\μ a' w'<μ a w) Q) a w)
    (first:(∀ a w,J a w->rest.wp P (Exit.jump l J Q) a w)->c.wp P (Exit.jump l J Q) a w):(Code.scope c).wp P Q a w:=
 wp_scope_jumps l J μ hf (first λa w h=>wp_mono (pass a w h) (Exit.jump_mono λ_ _ h=>h.1)) (λa w h=>wp_seq (wp_skip (pass a w h)))
theorem Zte(k r:Nat):swI k r r=k:=by unfold swI;split;assumption;rw[Gx rfl]
theorem Zst{α:Type}(l:List α)(i:Nat):Zai l i i=l:=by
 apply Qz;intro j;unfold Zai;cases h:l[i]? with
 | none=>rfl
 | some x =>
  have hi:=(List.getElem?_eq_some_iff.1 h).1;simp only;rw[Qh,Qh,Qw];by_cases hij:i=j;subst hij;rw[Gx rfl,Gx hi,h];rw[Gw hij,Gw hij]
theorem Kept.and{G H:Nat->Prop}{w W V:World}(h1:Kept G w W)(h2:Kept H W V)(hG:∀ k,k<w.heap.size->H k->G k):Kept G w V:=
 ⟨h2.os.trans h1.os,h2.tape.trans h1.tape,h2.output.trans h1.output,Qs h1.size h2.size,λk hk hg=>(h2.block k (Qf hk h1.size) (λh=>hg (hG k hk h))).trans (h1.block k hk hg)⟩
theorem Zja{a b:Int}{i j:Nat}(h:a.natAbs<pw i)(g:b.natAbs<pw j):(a*b).natAbs<pw (i+j):=by rw[Int.natAbs_mul];exact Zcw h g
theorem Zs9{a b:Int}{i:Nat}(h:a.natAbs<pw i)(g:b.natAbs<pw i):(a-b).natAbs<pw (i+1):=by
 have:=Zpu i;omega
theorem Kept.shrink{G G':Nat->Prop}{w W V:World}(h1:Below w.heap.size w W)(h2:Kept G W V)(hG:∀ k,k<w.heap.size->G k->G' k):Kept G' w V:=
 ⟨h2.os.trans h1.os,h2.tape.trans h1.tape,h2.output.trans h1.output,Qs h1.size h2.size,λk hk hg=>(h2.block k (Qf hk h1.size) (λh=>hg (hG k hk h))).trans (h1.block k hk)⟩
theorem Zxb(T:Array Value):∀ i,i<118->∀ h:i<(#[T.getD 0 undef,T.getD 1 undef,T.getD 2 undef,T.getD 3 undef,T.getD 4 undef,T.getD 5 undef,T.getD 6 undef,T.getD 7 undef,T.getD 8 undef,T.getD 9 undef,T.getD 10 undef,T.getD 11 undef,T.getD 12 undef,T.getD 13 undef,T.getD 14 undef,T.getD 15 undef,T.getD 16 undef,T.getD 17 undef,T.getD 18 undef,T.getD 19 undef,T.getD 20 undef,T.getD 21 undef,T.getD 22 undef,T.getD 23 undef,T.getD 24 undef,T.getD 25 undef,T.getD 26 undef,T.getD 27 undef,T.getD 28 undef,T.getD 29 undef,T.getD 30 undef,T.getD 31 undef,T.getD 32 undef,T.getD 33 undef,T.getD 34 undef,T.getD 35 undef,T.getD 36 undef,T.getD 37 undef,T.getD 38 undef,T.getD 39 undef,T.getD 40 undef,T.getD 41 undef,T.getD 42 undef,T.getD 43 undef,T.getD 44 undef,T.getD 45 undef,T.getD 46 undef,T.getD 47 undef,T.getD 48 undef,T.getD 49 undef,T.getD 50 undef,T.getD 51 undef,T.getD 52 undef,T.getD 53 undef,T.getD 54 undef,T.getD 55 undef,T.getD 56 undef,T.getD 57 undef,T.getD 58 undef,T.getD 59 undef,T.getD 60 undef,T.getD 61 undef,T.getD 62 undef,T.getD 63 undef,T.getD 64 undef,T.getD 65 undef,T.getD 66 undef,T.getD 67 undef,T.getD 68 undef,T.getD 69 undef,T.getD 70 undef,T.getD 71 undef,T.getD 72 undef,T.getD 73 undef,T.getD 74 undef,T.getD 75 undef,T.getD 76 undef,T.getD 77 undef,T.getD 78 undef,T.getD 79 undef,T.getD 80 undef,T.getD 81 undef,T.getD 82 undef,T.getD 83 undef,T.getD 84 undef,T.getD 85 undef,T.getD 86 undef,T.getD 87 undef,T.getD 88 undef,T.getD 89 undef,T.getD 90 undef,T.getD 91 undef,T.getD 92 undef,T.getD 93 undef,T.getD 94 undef,T.getD 95 undef,T.getD 96 undef,T.getD 97 undef,T.getD 98 undef,T.getD 99 undef,T.getD 100 undef,T.getD 101 undef,T.getD 102 undef,T.getD 103 undef,T.getD 104 undef,T.getD 105 undef,T.getD 106 undef,T.getD 107 undef,T.getD 108 undef,T.getD 109 undef,T.getD 110 undef,T.getD 111 undef,T.getD 112 undef,T.getD 113 undef,T.getD 114 undef,T.getD 115 undef,T.getD 116 undef,T.getD 117 undef]:Array Value).size,T.getD i undef=(#[T.getD 0 undef,T.getD 1 undef,T.getD 2 undef,T.getD 3 undef,T.getD 4 undef,T.getD 5 undef,T.getD 6 undef,T.getD 7 undef,T.getD 8 undef,T.getD 9 undef,T.getD 10 undef,T.getD 11 undef,T.getD 12 undef,T.getD 13 undef,T.getD 14 undef,T.getD 15 undef,T.getD 16 undef,T.getD 17 undef,T.getD 18 undef,T.getD 19 undef,T.getD 20 undef,T.getD 21 undef,T.getD 22 undef,T.getD 23 undef,T.getD 24 undef,T.getD 25 undef,T.getD 26 undef,T.getD 27 undef,T.getD 28 undef,T.getD 29 undef,T.getD 30 undef,T.getD 31 undef,T.getD 32 undef,T.getD 33 undef,T.getD 34 undef,T.getD 35 undef,T.getD 36 undef,T.getD 37 undef,T.getD 38 undef,T.getD 39 undef,T.getD 40 undef,T.getD 41 undef,T.getD 42 undef,T.getD 43 undef,T.getD 44 undef,T.getD 45 undef,T.getD 46 undef,T.getD 47 undef,T.getD 48 undef,T.getD 49 undef,T.getD 50 undef,T.getD 51 undef,T.getD 52 undef,T.getD 53 undef,T.getD 54 undef,T.getD 55 undef,T.getD 56 undef,T.getD 57 undef,T.getD 58 undef,T.getD 59 undef,T.getD 60 undef,T.getD 61 undef,T.getD 62 undef,T.getD 63 undef,T.getD 64 undef,T.getD 65 undef,T.getD 66 undef,T.getD 67 undef,T.getD 68 undef,T.getD 69 undef,T.getD 70 undef,T.getD 71 undef,T.getD 72 undef,T.getD 73 undef,T.getD 74 undef,T.getD 75 undef,T.getD 76 undef,T.getD 77 undef,T.getD 78 undef,T.getD 79 undef,T.getD 80 undef,T.getD 81 undef,T.getD 82 undef,T.getD 83 undef,T.getD 84 undef,T.getD 85 undef,T.getD 86 undef,T.getD 87 undef,T.getD 88 undef,T.getD 89 undef,T.getD 90 undef,T.getD 91 undef,T.getD 92 undef,T.getD 93 undef,T.getD 94 undef,T.getD 95 undef,T.getD 96 undef,T.getD 97 undef,T.getD 98 undef,T.getD 99 undef,T.getD 100 undef,T.getD 101 undef,T.getD 102 undef,T.getD 103 undef,T.getD 104 undef,T.getD 105 undef,T.getD 106 undef,T.getD 107 undef,T.getD 108 undef,T.getD 109 undef,T.getD 110 undef,T.getD 111 undef,T.getD 112 undef,T.getD 113 undef,T.getD 114 undef,T.getD 115 undef,T.getD 116 undef,T.getD 117 undef]:Array Value)[i]
 | 0,_,_=>rfl
 | 1,_,_=>rfl
 | 2,_,_=>rfl
 | 3,_,_=>rfl
 | 4,_,_=>rfl
 | 5,_,_=>rfl
 | 6,_,_=>rfl
 | 7,_,_=>rfl
 | 8,_,_=>rfl
 | 9,_,_=>rfl
 | 10,_,_=>rfl
 | 11,_,_=>rfl
 | 12,_,_=>rfl
 | 13,_,_=>rfl
 | 14,_,_=>rfl
 | 15,_,_=>rfl
 | 16,_,_=>rfl
 | 17,_,_=>rfl
 | 18,_,_=>rfl
 | 19,_,_=>rfl
 | 20,_,_=>rfl
 | 21,_,_=>rfl
 | 22,_,_=>rfl
 | 23,_,_=>rfl
 | 24,_,_=>rfl
 | 25,_,_=>rfl
 | 26,_,_=>rfl
 | 27,_,_=>rfl
 | 28,_,_=>rfl
 | 29,_,_=>rfl
 | 30,_,_=>rfl
 | 31,_,_=>rfl
 | 32,_,_=>rfl
 | 33,_,_=>rfl
 | 34,_,_=>rfl
 | 35,_,_=>rfl
 | 36,_,_=>rfl
 | 37,_,_=>rfl
 | 38,_,_=>rfl
 | 39,_,_=>rfl
 | 40,_,_=>rfl
 | 41,_,_=>rfl
 | 42,_,_=>rfl
 | 43,_,_=>rfl
 | 44,_,_=>rfl
 | 45,_,_=>rfl
 | 46,_,_=>rfl
 | 47,_,_=>rfl
 | 48,_,_=>rfl
 | 49,_,_=>rfl
 | 50,_,_=>rfl
 | 51,_,_=>rfl
 | 52,_,_=>rfl
 | 53,_,_=>rfl
 | 54,_,_=>rfl
 | 55,_,_=>rfl
 | 56,_,_=>rfl
 | 57,_,_=>rfl
 | 58,_,_=>rfl
 | 59,_,_=>rfl
 | 60,_,_=>rfl
 | 61,_,_=>rfl
 | 62,_,_=>rfl
 | 63,_,_=>rfl
 | 64,_,_=>rfl
 | 65,_,_=>rfl
 | 66,_,_=>rfl
 | 67,_,_=>rfl
 | 68,_,_=>rfl
 | 69,_,_=>rfl
 | 70,_,_=>rfl
 | 71,_,_=>rfl
 | 72,_,_=>rfl
 | 73,_,_=>rfl
 | 74,_,_=>rfl
 | 75,_,_=>rfl
 | 76,_,_=>rfl
 | 77,_,_=>rfl
 | 78,_,_=>rfl
 | 79,_,_=>rfl
 | 80,_,_=>rfl
 | 81,_,_=>rfl
 | 82,_,_=>rfl
 | 83,_,_=>rfl
 | 84,_,_=>rfl
 | 85,_,_=>rfl
 | 86,_,_=>rfl
 | 87,_,_=>rfl
 | 88,_,_=>rfl
 | 89,_,_=>rfl
 | 90,_,_=>rfl
 | 91,_,_=>rfl
 | 92,_,_=>rfl
 | 93,_,_=>rfl
 | 94,_,_=>rfl
 | 95,_,_=>rfl
 | 96,_,_=>rfl
 | 97,_,_=>rfl
 | 98,_,_=>rfl
 | 99,_,_=>rfl
 | 100,_,_=>rfl
 | 101,_,_=>rfl
 | 102,_,_=>rfl
 | 103,_,_=>rfl
 | 104,_,_=>rfl
 | 105,_,_=>rfl
 | 106,_,_=>rfl
 | 107,_,_=>rfl
 | 108,_,_=>rfl
 | 109,_,_=>rfl
 | 110,_,_=>rfl
 | 111,_,_=>rfl
 | 112,_,_=>rfl
 | 113,_,_=>rfl
 | 114,_,_=>rfl
 | 115,_,_=>rfl
 | 116,_,_=>rfl
 | 117,_,_=>rfl
 | n+118,h,_=>absurd h (by omega)
theorem Zl4{T:Array Value}{v0 v1 v2 v4 v5 v6 v7:Value}{p:Prop}(hs:T.size=118)(h0:T.getD 0 undef=v0)(h1:T.getD 1 undef=v1)(h2:T.getD 2 undef=v2)(h4:T.getD 4 undef=v4)(h5:T.getD 5 undef=v5)(h6:T.getD 6 undef=v6)(h7:T.getD 7 undef=v7)(hp:p) :
    ∃ u:Nat->Value,({ tmps:=T,defers:=[] }:Act)={ tmps:=#[v0,v1,v2,u 3,v4,v5,v6,v7,u 8,u 9,u 10,u 11,u 12,u 13,u 14,u 15,u 16,u 17,u 18,u 19,u 20,u 21,u 22,u 23,u 24,u 25,u 26,u 27,u 28,u 29,u 30,u 31,u 32,u 33,u 34,u 35,u 36,u 37,u 38,u 39,u 40,u 41,u 42,u 43,u 44,u 45,u 46,u 47,u 48,u 49,u 50,u 51,u 52,u 53,u 54,u 55,u 56,u 57,u 58,u 59,u 60,u 61,u 62,u 63,u 64,u 65,u 66,u 67,u 68,u 69,u 70,u 71,u 72,u 73,u 74,u 75,u 76,u 77,u 78,u 79,u 80,u 81,u 82,u 83,u 84,u 85,u 86,u 87,u 88,u 89,u 90,u 91,u 92,u 93,u 94,u 95,u 96,u 97,u 98,u 99,u 100,u 101,u 102,u 103,u 104,u 105,u 106,u 107,u 108,u 109,u 110,u 111,u 112,u 113,u 114,u 115,u 116,u 117],defers:=[] }/\p:=by
 refine⟨λk=>T.getD k undef,?_,hp⟩;subst h0 h1 h2 h4 h5 h6 h7;congr 1;apply Array.ext;rw[hs];rfl
 ·intro i e f
  have hi:i<118:=by omega
  have hT:T[i]=T.getD i undef:=by rw[Array.getD_eq_getD_getElem?,Array.getElem?_eq_getElem e];rfl
  rw[hT];clear hT e;exact Zxb T i hi f
def colOf:Value->Int | .int _ q=>q|_=>0
theorem Zim(go n cap:Nat)(L0:List RZ)(vby:Value)(m cols:Nat)(w:World)(hM:MatZ 150 39 w go L0)(hn:L0.length=n)(hn0:0<n)(hn9:n<=900)(hcap:n<=cap)(hcm:cap<=maxLen)(hcs:cols<=m)(hm9:m<=900)
    (p9:okZ (pw 200) m cols 0 0 (L0.map RZ.q) 1) :
    Calls Tryz.prog 128 #[.agg #[.slice (some ⟨go,0,none⟩) n cap,vby],.int .i64 cols] w λe w'=>∃ L2 ln lA lk lc,
     e=.returned (.tuple #[.int .i64 ((Zar cols 0 0 (L0.map RZ.q) false 1).2.1:Nat),.bool (Zar cols 0 0 (L0.map RZ.q) false 1).2.2.1,.agg #[.bool ln,.slice lA lk lc]])/\Wd w' ln lA lk lc (Zar cols 0 0 (L0.map RZ.q) false 1).2.2.2 /\
     L2.length=n/\(∀ g ∈ L2.map RZ.g,g ∈ L0.map RZ.g)/\L2.map RZ.q=(Zar cols 0 0 (L0.map RZ.q) false 1).1/\MatZ 150 39 w' go L2/\Kept (λg=>g=go \/ g ∈ L0.map RZ.g) w w':=by
 have hmx:=Gt
 have E9:=hcm;unfold maxLen at hcm;obtain⟨FIN,i3⟩:=Gz (Zar cols 0 0 (L0.map RZ.q) false 1);rw[i3];replace i3:=Za i3;replace p9:=Za p9;replace hn:=Za hn;obtain⟨W0,v9,h8,⟨q0,q1,q2,q3⟩,s0⟩:=Zgf w 152 #[.slice (some ⟨go,0,none⟩) n cap,vby] 3 #[.int .i64 0] 4 #[.bool false] 39 #[.bool false,.slice none 0 0];obtain⟨gg,b5⟩:=Gz w.heap.size;rw[b5]at q0 q1 q2 q3 s0 h8;go_enter Tryz.func128,Tryz.ntmps128;go_wp2_with fail;(try rw[v9]);(try rw[b5]);obtain⟨gr,s9⟩:=Gz (gg+1);rw[s9]at q1 q2 q3 ⊢;obtain⟨gn,u8⟩:=Gz (gr+1);rw[u8]at q2 q3 ⊢;obtain⟨gl,s7⟩:=Gz (gn+1);rw[s7]at q3 ⊢;have G0:W0.heap.size=gl+1:=by rw[s0];omega
 have D5:=hM.below (by rw[b5];exact h8:Below w.heap.size w W0)
 have B2:∀ k,(k=go \/ k ∈ L0.map RZ.g)->k<gg:=λk hk=>by
  obtain⟨t,cs,hb,-⟩:=hM.boxes k hk;rw[<- b5];exact hb.lt
 have hD:Hid (gg<gr/\gr<gn/\gn<gl/\(∀ k,(k=go \/ k ∈ L0.map RZ.g)->k<gg)):=Za ⟨by omega,by omega,by omega,B2⟩;have B5:=Za hM;clear s9 u8 s7 s0 hM D5 v9;replace b5:=Za b5;replace h8:=Za h8
 refine Znl 0 (λa' w'=>∃ (c r:Nat) (ng:Bool) (last:Int) (ln:Bool) (lA:Option Addr) (lk lc:Nat) (L2:List RZ) (u:Nat->Value),a'={ tmps:=#[.agg #[.slice (some ⟨go,0,none⟩) n cap,vby],.int .i64 cols,.pointer (some ⟨gg,0,none⟩),u 3,.pointer (some ⟨gr,0,none⟩),.pointer (some ⟨gn,0,none⟩),.pointer (some ⟨gl,0,none⟩),.int .i64 c,u 8,u 9,u 10,u 11,u 12,u 13,u 14,u 15,u 16,u 17,u 18,u 19,u 20,u 21,u 22,u 23,u 24,u 25,u 26,u 27,u 28,u 29,u 30,u 31,u 32,u 33,u 34,u 35,u 36,u 37,u 38,u 39,u 40,u 41,u 42,u 43,u 44,u 45,u 46,u 47,u 48,u 49,u 50,u 51,u 52,u 53,u 54,u 55,u 56,u 57,u 58,u 59,u 60,u 61,u 62,u 63,u 64,u 65,u 66,u 67,u 68,u 69,u 70,u 71,u 72,u 73,u 74,u 75,u 76,u 77,u 78,u 79,u 80,u 81,u 82,u 83,u 84,u 85,u 86,u 87,u 88,u 89,u 90,u 91,u 92,u 93,u 94,u 95,u 96,u 97,u 98,u 99,u 100,u 101,u 102,u 103,u 104,u 105,u 106,u 107,u 108,u 109,u 110,u 111,u 112,u 113,u 114,u 115,u 116,u 117],defers:=[] }/\c<=cols/\r<=n /\
     Blk w' gr 3 #[.int .i64 r]/\Blk w' gn 4 #[.bool ng]/\Blk w' gl 39 #[.bool ln,.slice lA lk lc]/\Wd w' ln lA lk lc last/\MatZ 150 39 w' go L2/\L2.length=n/\(∀ g ∈ L2.map RZ.g,g ∈ L0.map RZ.g) /\
     Zar (cols-c) c r (L2.map RZ.q) ng last=FIN/\okZ (pw 200) m (cols-c) c r (L2.map RZ.q) last/\Kept (λk=>k=go \/ k ∈ L0.map RZ.g \/ k=gr \/ k=gn \/ k=gl) W0 w') (λa' _=>cols-(colOf (a'.tmps.getD 7 undef)).toNat) rfl ?pass ?first
 case first =>
  intro q9;go_wp2_with fail;refine(Zbf 1 W0 (by decide) (by decide)).mono ?_;rintro e w1 ⟨r4,ln,lA,lk,lc,rfl,hN⟩;obtain⟨e1,e2,e3,e4⟩:=hD.out;have k3:=Zc r4 q3;obtain⟨y0,y1,y2,y3⟩:=k3.two;obtain⟨X,hX,d7,q4,st⟩:=Zas ln lA lk lc (r4.mono (by omega:gl<=W0.heap.size)) (Qb gl) k3;have k1:=q1.below d7 (by omega);have k2:=q2.below d7 (by omega);have g9:=B5.out.below (by rw[b5.out];exact h8.out.trans (d7.mono (by omega)):Below w.heap.size w X)
  have b8:Kept (λk=>k=go \/ k ∈ L0.map RZ.g \/ k=gr \/ k=gn \/ k=gl) W0 X:=by
   rw[<- hX];exact((Kept.of_below r4).set_ (p:=⟨gl,0,none⟩) (.inl (.inr (.inr (.inr (.inr rfl))))) _).set_ (p:=⟨gl,1,none⟩) (.inl (.inr (.inr (.inr (.inr rfl))))) _
  have g4:=st.1 _ _ _ _ _ hN;go_wp2_with fail;(try rw[hX]);refine wp_label ?_;refine(by assumption:∀ a w,Code.wp _ _ _ a w->_) _ _ ?_;exact q9 _ _ ⟨0,0,false,1,ln,lA,lk,lc,L0,Zl4 rfl rfl rfl rfl rfl rfl rfl rfl ⟨QK _,QK _,k1,k2,q4,g4,g9,hn.out,λg h=>h,i3.out,p9.out,b8⟩⟩
 case pass =>
  rintro a' wA ⟨c,r,ng,last,ln,lA,lk,lc,L2,u,rfl,G2,F7,b1,b2,b3,a2,i6,c8,c9,hE,a4,hK⟩;obtain⟨e1,e2,e3,e4⟩:=hD.out;have d1:gr≠gn:=by omega
  have d3:gr≠gl:=by omega
  have d4:gn≠gl:=by omega
  have b0:Blk wA gg 152 #[.slice (some ⟨go,0,none⟩) n cap,vby]:=hK.blk q0 (λh=>by
   rcases h with h|h|h|h|h;have:=e4 gg (.inl h);omega;have:=e4 gg (.inr h);omega;omega;omega
   ·omega)
  obtain⟨x0,-,-,-⟩:=b0.two;have n6:=Za (Zyo a4);have I:Hid ((L2.map RZ.q).length=n):=Za (by rw[Qi];exact c8);by_cases hc:c=cols
  case pos =>
   have t1:((c:Int) == (cols:Int))=true:=beq_iff_eq.2 (by omega);have A3:decide (c=cols)=true:=Gv hc;replace hc:=Za hc;have h9:Hid ((L2.map RZ.q,r,ng,last)=FIN):=Za (by rw[<- hE];exact(by have h:=hc.out;subst h;rw[Nat.sub_self];rfl));obtain⟨X,hX,d7,q4,st⟩:=Zas (B:=gl) ln lA lk lc (Qe gl ((wA.setCell ⟨gr,0,none⟩ (.int .i64 r)).setCell ⟨gn,0,none⟩ (.bool ng))) (Qb gl) ((b3.far (Qk d3) _).far (Qk d4) _);have x1:Blk X gr 3 #[.int .i64 r]:=by rw[<- hX];exact((((b1.set_ 0 (.int .i64 r)).far d1 _).far d3 _).far d3 _)
   have x2:Blk X gn 4 #[.bool ng]:=by rw[<- hX];exact(((b2.far (Qk d1) _).set_ 0 (.bool ng)).far d4 _).far d4 _
   have a0:Kept (λk=>k=gr \/ k=gn \/ k=gl) wA X:=by
    rw[<- hX];exact((((Qn _ wA).set_ (p:=⟨gr,0,none⟩) (.inl (.inl rfl)) _).set_ (p:=⟨gn,0,none⟩) (.inl (.inr (.inl rfl))) _).set_ (p:=⟨gl,0,none⟩) (.inl (.inr (.inr rfl))) _).set_ (p:=⟨gl,1,none⟩) (.inl (.inr (.inr rfl))) _
   have a8:∀ k,(k=gr \/ k=gn \/ k=gl)->∃ t cs,Blk wA k t cs/\NoLimb cs:=λk hk=>by
    rcases hk with rfl|rfl|rfl;exact⟨_,_,b1,Zfp (λx=>by simp)⟩;exact⟨_,_,b2,Zfp (λx=>by simp)⟩;exact⟨_,_,b3,Zgi _ _ _ _⟩
   have g9:Hid (MatZ 150 39 X go L2):=Za (i6.keptG a0 (λh=>by have:=e4 go (.inl rfl);omega) (λs hs h=>by have:=e4 s.g (.inr (c9 _ (List.mem_map.2 ⟨s,hs,rfl⟩)));omega) a8);have g4:Hid (Wd X ln lA lk lc last):=Za (a0.wd a2 a8)
   have b8:Hid (Kept (λg=>g=go \/ g ∈ L0.map RZ.g) w X):=Za (Kept.shrink (by rw[b5.out];exact h8.out) (hK.trans (a0.mono (λk _ h=>by rcases h with h|h|h <;> simp[h]))) (λk hk h=>by
    rw[b5.out]at hk;rcases h with h|h|h|h|h;exact .inl h;exact .inr h;omega;omega
    ·omega))
   have c1:wA.cell? ⟨gr,0,none⟩=some (.int .i64 r):=by rw[b1.cell];rfl
   have z1:=b1.frozen 0;have c2:wA.cell? ⟨gn,0,none⟩=some (.bool ng):=by rw[b2.cell];rfl
   have z2:=b2.frozen 0;obtain⟨c3,c4,z3,z4⟩:=b3.two;have b6:=b2.far (p:=⟨gr,0,none⟩) (Qk d1) (Value.int .i64 r);have l8:(wA.setCell ⟨gr,0,none⟩ (.int .i64 r)).cell? ⟨gn,0,none⟩=some (.bool ng):=by rw[b6.cell];rfl
   have s3:=b6.frozen 0;obtain⟨j8,j4,p6,s4⟩:=(b3.far (p:=⟨gr,0,none⟩) (Qk d3) (Value.int .i64 r)).two;have k7:(wA.setCell ⟨gr,0,none⟩ (.int .i64 r)).cell? ⟨gr,0,none⟩=some (.int .i64 r):=by rw[(b1.set_ 0 (.int .i64 r)).cell];rfl
   have e9:((wA.setCell ⟨gr,0,none⟩ (.int .i64 r)).setCell ⟨gn,0,none⟩ (.bool ng)).cell? ⟨gr,0,none⟩=some (.int .i64 r):=by rw[((b1.set_ 0 (.int .i64 r)).far (p:=⟨gn,0,none⟩) d1 _).cell];rfl
   have e6:((wA.setCell ⟨gr,0,none⟩ (.int .i64 r)).setCell ⟨gn,0,none⟩ (.bool ng)).cell? ⟨gn,0,none⟩=some (.bool ng):=by rw[(b6.set_ 0 (.bool ng)).cell];rfl
   have j9:=(b6.set_ 0 (.bool ng)).frozen 0;obtain⟨d9,f5,j2,l9⟩:=((b3.far (p:=⟨gr,0,none⟩) (Qk d3) (Value.int .i64 r)).far (p:=⟨gn,0,none⟩) (Qk d4) (Value.bool ng)).two;obtain⟨y3,y4,-,-⟩:=q4.two;have y1:X.cell? ⟨gr,0,none⟩=some (.int .i64 r):=by rw[x1.cell];rfl
   have y2:X.cell? ⟨gn,0,none⟩=some (.bool ng):=by rw[x2.cell];rfl
   clear b1 b2 b3 b6 i6 a2 hK hE a4 st d7 a0 a8;go_wp2_with fail;have g2:wA.drew.cell? ⟨gr,0,none⟩=some (.int .i64 r)/\wA.drew.cell? ⟨gn,0,none⟩=some (.bool ng)/\wA.drew.cell? ⟨gl,0,none⟩=some (.bool ln)/\wA.drew.cell? ⟨gl,1,none⟩=some (.slice lA lk lc):=⟨c1,c2,c3,c4⟩;have l4:(wA.setCell ⟨gr,0,none⟩ (.int .i64 r)).drew.cell? ⟨gr,0,none⟩=some (.int .i64 r)/\(wA.setCell ⟨gr,0,none⟩ (.int .i64 r)).drew.cell? ⟨gn,0,none⟩=some (.bool ng)/\(wA.setCell ⟨gr,0,none⟩ (.int .i64 r)).drew.cell? ⟨gl,0,none⟩=some (.bool ln)/\(wA.setCell ⟨gr,0,none⟩ (.int .i64 r)).drew.cell? ⟨gl,1,none⟩=some (.slice lA lk lc):=⟨k7,l8,j8,j4⟩;have l6:((wA.setCell ⟨gr,0,none⟩ (.int .i64 r)).setCell ⟨gn,0,none⟩ (.bool ng)).drew.cell? ⟨gr,0,none⟩=some (.int .i64 r)/\((wA.setCell ⟨gr,0,none⟩ (.int .i64 r)).setCell ⟨gn,0,none⟩ (.bool ng)).drew.cell? ⟨gn,0,none⟩=some (.bool ng)/\((wA.setCell ⟨gr,0,none⟩ (.int .i64 r)).setCell ⟨gn,0,none⟩ (.bool ng)).drew.cell? ⟨gl,0,none⟩=some (.bool ln)/\((wA.setCell ⟨gr,0,none⟩ (.int .i64 r)).setCell ⟨gn,0,none⟩ (.bool ng)).drew.cell? ⟨gl,1,none⟩=some (.slice lA lk lc):=⟨e9,e6,d9,f5⟩;have j5:X.drew.cell? ⟨gr,0,none⟩=some (.int .i64 r)/\X.drew.cell? ⟨gn,0,none⟩=some (.bool ng)/\X.drew.cell? ⟨gl,0,none⟩=some (.bool ln)/\X.drew.cell? ⟨gl,1,none⟩=some (.slice lA lk lc):=⟨y1,y2,y3,y4⟩
   refine Z7 [] (λwx=>wx.cell? ⟨gr,0,none⟩=some (.int .i64 r)/\wx.cell? ⟨gn,0,none⟩=some (.bool ng)/\wx.cell? ⟨gl,0,none⟩=some (.bool ln)/\wx.cell? ⟨gl,1,none⟩=some (.slice lA lk lc)) hmx g2 (λhxs=>?_);refine Zjw 3 [0,1,2] rfl (by kernel_rfl) g2 ?_
   iterate 3 (refine tkA ?_;try simp only[Qa,Zg4,Zgk,Zgx,Gr,Gq,Gp])
   refine tk0 ?_;refine wpAnyL_o 3 λK hK=>?_;go_simp;(try rw[hX]);refine hK.out _ _ (λ_=>l4) ?_;clear hK K
   try simp only[Qa,Zg4,Zgk,Zgx]
   refine wpAnyL_o 4 λK hK=>?_;go_simp;(try rw[hX]);refine hK.out _ _ (λ_=>l6) ?_;clear hK K
   try simp only[Qa,Zg4,Zgk,Zgx]
   refine wpAnyL_o 5 λK hK=>?_;go_simp;(try rw[hX]);refine hK.out _ _ (λ_=>j5) ?_;clear hK K
   try simp only[Qa,Zg4,Zgk,Zgx]
   refine wpAnyL_fin ?_;clear c1 c2 c3 c4 z1 z2 z3 z4 l8 s3 j8 j4 p6 s4 g2 l4 l6 j5 hxs k7 e9 e6 d9 f5 j9 j2 l9;go_wp2_with fail;simp only[Exit.jump];refine bodyPost_ret (v:=.tuple #[.int .i64 r,.bool ng,.agg #[.bool ln,.slice lA lk lc]]) (by simp[results,Tryz.results128,go_sem,y1,y2,y3,y4]) rfl ?_;have i0:=h9.out;exact⟨L2,ln,lA,lk,lc,by rw[<- i0],by rw[<- i0];exact g4.out,c8,c9,by rw[<- i0],g9.out.below (Zf (Qe _ _) 1),b8.out.drewN 1⟩
  have t1:((c:Int) == (cols:Int))=false:=beq_eq_false_iff_ne.2 (by omega);have A3:decide (c=cols)=false:=Gu hc;by_cases hr:r=n
  case pos =>
   have t2:((r:Int) == (n:Int))=true:=beq_iff_eq.2 (by omega);have C4:decide (r=n)=true:=Gv hr;replace hr:=Za hr;have h9:Hid ((L2.map RZ.q,r,ng,last)=FIN):=Za (by rw[<- hE];exact(Znf (by rw[I.out];exact hr.out)).symm);obtain⟨X,hX,d7,q4,st⟩:=Zas (B:=gl) ln lA lk lc (Qe gl ((wA.setCell ⟨gr,0,none⟩ (.int .i64 r)).setCell ⟨gn,0,none⟩ (.bool ng))) (Qb gl) ((b3.far (Qk d3) _).far (Qk d4) _);have x1:Blk X gr 3 #[.int .i64 r]:=by rw[<- hX];exact((((b1.set_ 0 (.int .i64 r)).far d1 _).far d3 _).far d3 _)
   have x2:Blk X gn 4 #[.bool ng]:=by rw[<- hX];exact(((b2.far (Qk d1) _).set_ 0 (.bool ng)).far d4 _).far d4 _
   have a0:Kept (λk=>k=gr \/ k=gn \/ k=gl) wA X:=by
    rw[<- hX];exact((((Qn _ wA).set_ (p:=⟨gr,0,none⟩) (.inl (.inl rfl)) _).set_ (p:=⟨gn,0,none⟩) (.inl (.inr (.inl rfl))) _).set_ (p:=⟨gl,0,none⟩) (.inl (.inr (.inr rfl))) _).set_ (p:=⟨gl,1,none⟩) (.inl (.inr (.inr rfl))) _
   have a8:∀ k,(k=gr \/ k=gn \/ k=gl)->∃ t cs,Blk wA k t cs/\NoLimb cs:=λk hk=>by
    rcases hk with rfl|rfl|rfl;exact⟨_,_,b1,Zfp (λx=>by simp)⟩;exact⟨_,_,b2,Zfp (λx=>by simp)⟩;exact⟨_,_,b3,Zgi _ _ _ _⟩
   have g9:Hid (MatZ 150 39 X go L2):=Za (i6.keptG a0 (λh=>by have:=e4 go (.inl rfl);omega) (λs hs h=>by have:=e4 s.g (.inr (c9 _ (List.mem_map.2 ⟨s,hs,rfl⟩)));omega) a8);have g4:Hid (Wd X ln lA lk lc last):=Za (a0.wd a2 a8)
   have b8:Hid (Kept (λg=>g=go \/ g ∈ L0.map RZ.g) w X):=Za (Kept.shrink (by rw[b5.out];exact h8.out) (hK.trans (a0.mono (λk _ h=>by rcases h with h|h|h <;> simp[h]))) (λk hk h=>by
    rw[b5.out]at hk;rcases h with h|h|h|h|h;exact .inl h;exact .inr h;omega;omega
    ·omega))
   have c1:wA.cell? ⟨gr,0,none⟩=some (.int .i64 r):=by rw[b1.cell];rfl
   have z1:=b1.frozen 0;have c2:wA.cell? ⟨gn,0,none⟩=some (.bool ng):=by rw[b2.cell];rfl
   have z2:=b2.frozen 0;obtain⟨c3,c4,z3,z4⟩:=b3.two;have b6:=b2.far (p:=⟨gr,0,none⟩) (Qk d1) (Value.int .i64 r);have l8:(wA.setCell ⟨gr,0,none⟩ (.int .i64 r)).cell? ⟨gn,0,none⟩=some (.bool ng):=by rw[b6.cell];rfl
   have s3:=b6.frozen 0;obtain⟨j8,j4,p6,s4⟩:=(b3.far (p:=⟨gr,0,none⟩) (Qk d3) (Value.int .i64 r)).two;have k7:(wA.setCell ⟨gr,0,none⟩ (.int .i64 r)).cell? ⟨gr,0,none⟩=some (.int .i64 r):=by rw[(b1.set_ 0 (.int .i64 r)).cell];rfl
   have e9:((wA.setCell ⟨gr,0,none⟩ (.int .i64 r)).setCell ⟨gn,0,none⟩ (.bool ng)).cell? ⟨gr,0,none⟩=some (.int .i64 r):=by rw[((b1.set_ 0 (.int .i64 r)).far (p:=⟨gn,0,none⟩) d1 _).cell];rfl
   have e6:((wA.setCell ⟨gr,0,none⟩ (.int .i64 r)).setCell ⟨gn,0,none⟩ (.bool ng)).cell? ⟨gn,0,none⟩=some (.bool ng):=by rw[(b6.set_ 0 (.bool ng)).cell];rfl
   have j9:=(b6.set_ 0 (.bool ng)).frozen 0;obtain⟨d9,f5,j2,l9⟩:=((b3.far (p:=⟨gr,0,none⟩) (Qk d3) (Value.int .i64 r)).far (p:=⟨gn,0,none⟩) (Qk d4) (Value.bool ng)).two;obtain⟨y3,y4,-,-⟩:=q4.two;have y1:X.cell? ⟨gr,0,none⟩=some (.int .i64 r):=by rw[x1.cell];rfl
   have y2:X.cell? ⟨gn,0,none⟩=some (.bool ng):=by rw[x2.cell];rfl
   clear b1 b2 b3 b6 i6 a2 hK hE a4 st d7 a0 a8;go_wp2_with fail;have g2:wA.drew.cell? ⟨gr,0,none⟩=some (.int .i64 r)/\wA.drew.cell? ⟨gn,0,none⟩=some (.bool ng)/\wA.drew.cell? ⟨gl,0,none⟩=some (.bool ln)/\wA.drew.cell? ⟨gl,1,none⟩=some (.slice lA lk lc):=⟨c1,c2,c3,c4⟩;have l4:(wA.setCell ⟨gr,0,none⟩ (.int .i64 r)).drew.cell? ⟨gr,0,none⟩=some (.int .i64 r)/\(wA.setCell ⟨gr,0,none⟩ (.int .i64 r)).drew.cell? ⟨gn,0,none⟩=some (.bool ng)/\(wA.setCell ⟨gr,0,none⟩ (.int .i64 r)).drew.cell? ⟨gl,0,none⟩=some (.bool ln)/\(wA.setCell ⟨gr,0,none⟩ (.int .i64 r)).drew.cell? ⟨gl,1,none⟩=some (.slice lA lk lc):=⟨k7,l8,j8,j4⟩;have l6:((wA.setCell ⟨gr,0,none⟩ (.int .i64 r)).setCell ⟨gn,0,none⟩ (.bool ng)).drew.cell? ⟨gr,0,none⟩=some (.int .i64 r)/\((wA.setCell ⟨gr,0,none⟩ (.int .i64 r)).setCell ⟨gn,0,none⟩ (.bool ng)).drew.cell? ⟨gn,0,none⟩=some (.bool ng)/\((wA.setCell ⟨gr,0,none⟩ (.int .i64 r)).setCell ⟨gn,0,none⟩ (.bool ng)).drew.cell? ⟨gl,0,none⟩=some (.bool ln)/\((wA.setCell ⟨gr,0,none⟩ (.int .i64 r)).setCell ⟨gn,0,none⟩ (.bool ng)).drew.cell? ⟨gl,1,none⟩=some (.slice lA lk lc):=⟨e9,e6,d9,f5⟩;have j5:X.drew.cell? ⟨gr,0,none⟩=some (.int .i64 r)/\X.drew.cell? ⟨gn,0,none⟩=some (.bool ng)/\X.drew.cell? ⟨gl,0,none⟩=some (.bool ln)/\X.drew.cell? ⟨gl,1,none⟩=some (.slice lA lk lc):=⟨y1,y2,y3,y4⟩
   refine Z7 [] (λwx=>wx.cell? ⟨gr,0,none⟩=some (.int .i64 r)/\wx.cell? ⟨gn,0,none⟩=some (.bool ng)/\wx.cell? ⟨gl,0,none⟩=some (.bool ln)/\wx.cell? ⟨gl,1,none⟩=some (.slice lA lk lc)) hmx g2 (λhxs=>?_);refine Zjw 3 [0,1,2] rfl (by kernel_rfl) g2 ?_
   iterate 3 (refine tkA ?_;try simp only[Qa,Zg4,Zgk,Zgx,Gr,Gq,Gp])
   refine tk0 ?_;refine wpAnyL_o 3 λK hK=>?_;go_simp;(try rw[hX]);refine hK.out _ _ (λ_=>l4) ?_;clear hK K
   try simp only[Qa,Zg4,Zgk,Zgx]
   refine wpAnyL_o 4 λK hK=>?_;go_simp;(try rw[hX]);refine hK.out _ _ (λ_=>l6) ?_;clear hK K
   try simp only[Qa,Zg4,Zgk,Zgx]
   refine wpAnyL_o 5 λK hK=>?_;go_simp;(try rw[hX]);refine hK.out _ _ (λ_=>j5) ?_;clear hK K
   try simp only[Qa,Zg4,Zgk,Zgx]
   refine wpAnyL_fin ?_;clear c1 c2 c3 c4 z1 z2 z3 z4 l8 s3 j8 j4 p6 s4 g2 l4 l6 j5 hxs k7 e9 e6 d9 f5 j9 j2 l9;go_wp2_with fail;simp only[Exit.jump];refine bodyPost_ret (v:=.tuple #[.int .i64 r,.bool ng,.agg #[.bool ln,.slice lA lk lc]]) (by simp[results,Tryz.results128,go_sem,y1,y2,y3,y4]) rfl ?_;have i0:=h9.out;exact⟨L2,ln,lA,lk,lc,by rw[<- i0],by rw[<- i0];exact g4.out,c8,c9,by rw[<- i0],g9.out.below (Zf (Qe _ _) 1),b8.out.drewN 1⟩
  obtain⟨j,hj⟩:∃ j,cols-c=j+1:=⟨cols-c-1,by omega⟩;rw[hj]at hE a4;have x5:c<cols:=by omega
  have O:r<n:=by omega
  have t2:((r:Int) == (n:Int))=false:=beq_eq_false_iff_ne.2 (by omega);have C4:decide (r=n)=false:=Gu hr;have n2:Hid (r≠(L2.map RZ.q).length):=Za (by rw[I.out];exact hr);replace hr:=Za hr;replace hc:=Za hc;replace hj:=Za hj;have c1:wA.cell? ⟨gr,0,none⟩=some (.int .i64 r):=by rw[b1.cell];rfl
  obtain⟨ga,i7⟩:=Gz wA.heap.size;obtain⟨V,hV,e7,qa,kW,kB,sV⟩:=Zr 3 #[.int .i64 r] (Qe wA.heap.size wA) (Qb _);have y5:Hid (MatZ 150 39 V go L2):=Za (i6.below e7);have B8:Hid (Wd V ln lA lk lc last):=Za (a2.below e7);have v0:=b0.below e7 b0.lt;have v1:=b1.below e7 b1.lt;have v2:=b2.below e7 b2.lt;have v3:=b3.below e7 b3.lt;have v6:Hid (gl<ga):=Za (by rw[<- i7];exact b3.lt);have A6:Hid (Kept (λk=>k=go \/ k ∈ L0.map RZ.g \/ k=gr \/ k=gn \/ k=gl) W0 V):=Za (hK.below e7);have F4:Hid (ga<V.heap.size):=Za (by rw[sV];omega);have v8:Hid (W0.heap.size<=ga):=Za (by rw[<- i7];exact hK.size);rw[i7]at qa;replace i7:=Za i7;replace v0:=Za v0;replace v1:=Za v1;replace v2:=Za v2;replace v3:=Za v3;replace hE:=Za hE;replace a4:=Za a4;replace c8:=Za c8;replace c9:=Za c9;clear i6 a2 hK b1 b2 b3 b0 kW kB sV e7;replace qa:=Za qa;go_wp2_with fail;rw[i7.out];(try rw[hV]);clear hV c1 x0
  go_loopg [45] (n-r) (λk _ wr=>∃ q:Nat,q+k=n/\r<=q/\Blk wr ga 3 #[.int .i64 q]/\Hid (∀ i,r<=i->i<q->Zah (L2.map RZ.q) i c=0)/\Kept (λk=>k=ga) V wr)
  case atStart=>exact⟨r,by omega,Qb _,qa.out,Za (λi h1 h2=>by omega),Qn _ _⟩
  case round =>
   obtain⟨q,F8,u9,e5,q7,b4⟩:=hrel;have E8:=v6.out;have a9:∀ k,k=ga->∃ t cs,Blk V k t cs/\NoLimb cs:=λk hk=>⟨_,_,(hk▸qa.out:Blk V k 3 #[.int .i64 r]),Zfp (λx=>by simp)⟩;have w0:=b4.blk v0.out (by omega);have f8:=b4.blk v1.out (by omega);have g8:=b4.blk v2.out (by omega);have g7:=b4.blk v3.out (by omega);have d5:MatZ 150 39 wr go L2:=y5.out.keptG b4 (λh=>by have:=e4 go (.inl rfl);omega) (λs hs h=>by have:=e4 s.g (.inr (c9.out _ (List.mem_map.2 ⟨s,hs,rfl⟩)));omega) a9;have h6:Wd wr ln lA lk lc last:=b4.wd B8.out a9;have p7:Hid (Kept (λk=>k=go \/ k ∈ L0.map RZ.g \/ k=gr \/ k=gn \/ k=gl) W0 wr):=Za (A6.out.and b4 (λk hk h=>by have:=v8.out;omega));obtain⟨x0,-,-,-⟩:=w0.two;have cq:wr.cell? ⟨ga,0,none⟩=some (.int .i64 q):=by rw[e5.cell];rfl
   have zq:=e5.frozen 0;have c1:wr.cell? ⟨gr,0,none⟩=some (.int .i64 r):=by rw[f8.cell];rfl
   cases gk with
   | zero =>
    obtain rfl:q=n:=by omega
    have t3:decide ((q:Int)<(q:Int))=false:=by simp
    have t4:((q:Int) == (q:Int))=true:=by simp
    have hp:Zbo (λi=>Zah (L2.map RZ.q) i c == 0) (L2.map RZ.q).length (L2.map RZ.q).length r=q:=by
     rw[I.out];exact Zl1 (by omega) u9 (Qb _) (λi h1 h2=>by rw[q7.out i h1 h2];rfl) (λh=>by omega)
    have h9:=Za ((Zmf (f:=j) (ng:=ng) (last:=last) n2.out hp I.out.symm).symm.trans hE.out);have l7:=Za (Zr5 a4.out n2.out hp I.out.symm);have k8:Hid (cols-(c+1)=j):=Za (by have:=hj.out;omega);replace hp:=Za hp;replace d5:=Za d5;replace h6:=Za h6;replace f8:=Za f8;replace g8:=Za g8;replace g7:=Za g7;clear b4 a9;go_wp2_with fail
    go_step3
    refine⟨rfl,?_⟩;refine⟨⟨c+1,r,ng,last,ln,lA,lk,lc,L2,Zl4 rfl rfl rfl rfl rfl rfl rfl (by first|rfl|(show Value.int .i64 _=_;congr 1)) ⟨by omega,by omega,f8.out,g8.out,g7.out,h6.out,d5.out,c8.out,c9.out,by rw[k8.out];exact h9.out,by rw[k8.out];exact l7.out,p7.out⟩⟩,?_⟩;simp[colOf];omega
   | succ gk' =>
    obtain rfl:gk'=n-(q+1):=by omega
    have i2:q<n:=by omega
    have t3:decide ((q:Int)<(n:Int))=true:=Gv (by omega);have bq:(q:Int)<(n:Int):=by omega
    obtain⟨x,hx⟩:=Zcr (L:=L2) (i:=q) (by rw[c8.out];exact i2)
    have s2:x.q.length=m:=by
     have:=n6.out.1.1 q (by rw[I.out];exact i2);rw[QI,hx]at this;exact this
    obtain⟨cx,zx⟩:=d5.cell hx;obtain⟨fx,-⟩:=d5.row hx;rw[s2]at cx;have bc:(c:Int)<(m:Int):=by omega
    obtain⟨n1,A1,k1,y8,p0,p1,m0⟩:=fx.at_ (i:=c) (by rw[s2];omega);have F6:k1<=4096:=m0.2.1;have n8:Zah (L2.map RZ.q) q c=x.q[c]?.getD 0:=by rw[Zj9,Zhn hx]
    rw[<- n8]at m0
    have j6:k1=0 ↔ Zah (L2.map RZ.q) q c=0:=by
     have h1:=m0.lim.len;have h2:=length_digits_pos (v:=(Zah (L2.map RZ.q) q c).natAbs);omega
    have hZ:=Za (λW1=>Zwp n1 A1 k1 y8 W1 (by omega) ((k1:Int) == 0) rfl);by_cases hz:k1=0
    case pos =>
     have t4:((k1:Int) == 0)=true:=by simp[hz]
     rw[t4]at hZ;have o0:=j6.1 hz
     have s6:Hid (∀ i,r<=i->i<q+1->Zah (L2.map RZ.q) i c=0):=Za (λi h1 h2=>by
      by_cases hi:i=q;rw[hi];exact o0
      ·exact q7.out i h1 (by omega))
     replace hz:=Za hz;replace d5:=Za d5;replace h6:=Za h6;clear o0 m0 fx zx n8 s2 hx j6 f8 g8 g7;go_wp2_with fail;refine(hZ.out _).mono ?_;rintro e w5 ⟨rfl,o⟩;have m6:=Zb o cq;have F9:=Zn o cq zq;have j1:=(e5.below o e5.lt).set_ 0 (.int .i64 ((q:Int)+1));have l2:=(b4.below o).set_ (p:=⟨ga,0,none⟩) (.inl rfl) (.int .i64 ((q:Int)+1));replace j1:=Za j1;replace l2:=Za l2;clear b4 e5 a9;go_wp2_with fail
     go_roundg (n-(q+1))
     case measure=>omega
     case rel=>exact⟨q+1,by omega,by omega,j1.out,s6,l2.out⟩
    have t4:((k1:Int) == 0)=false:=by simp;omega
    rw[t4]at hZ;have r1:Zah (L2.map RZ.q) q c≠0:=λe=>hz (j6.2 e);have t5:((q:Int) == (n:Int))=false:=beq_eq_false_iff_ne.2 (by omega);have G1:decide (q=n)=false:=Gu (by omega)
    have hp:Zbo (λi=>Zah (L2.map RZ.q) i c == 0) (L2.map RZ.q).length (L2.map RZ.q).length r=q:=by
     rw[I.out];exact Zl1 (by omega) u9 (by omega) (λi h1 h2=>by rw[q7.out i h1 h2];rfl) (λ_=>by simpa using r1)
    have h9:=Za ((Zmt (f:=j) (ng:=ng) (last:=last) n2.out hp (by rw[I.out];omega)).symm.trans hE.out);have l7:=Za (Zr2 a4.out n2.out hp (by rw[I.out];omega));obtain⟨L3,g6⟩:=Gz (Zai L2 q r);have m4:L3.map RZ.q=Zai (L2.map RZ.q) q r:=by rw[<- g6];exact Zkv _ _ _ _
    have f6:Hid (L3.length=n):=Za (by rw[<- g6,Zec];exact c8.out);have o2:=Za m4
    have g5:Hid (∀ i,i<n->(Zaz L3 i).length=m):=Za (λi hi=>by
     rw[Zki,m4,Zds (by rw[I.out];exact i2) (by rw[I.out];exact O)];exact n6.out.1.1 _ (by rw[I.out];exact Zhr i2 O hi))
    have n0:Hid (∀ (i t:Nat),((Zaz L3 i)[t]?.getD 0).natAbs<pw 200):=Za (λi t=>by
     rw[<- Zj9,m4,Zh1 (by rw[I.out];exact i2) (by rw[I.out];exact O)];exact n6.out.1.2 _ _)
    have u6:Hid ((Zaz L3 r)[c]?.getD 0=Zah (L2.map RZ.q) q c):=Za (by
     rw[<- Zj9,m4,Zh1 (by rw[I.out];exact i2) (by rw[I.out];exact O),Zte])
    have n7:Hid (∀ g ∈ L3.map RZ.g,g ∈ L0.map RZ.g):=Za (λg hg=>by
     rw[<- g6,Zkv]at hg;exact c9.out g (Ziz _ _ _ _ hg))
    have n3:=Za (λ(W1:World) (h1:Blk W1 gg 152 #[.slice (some ⟨go,0,none⟩) n cap,vby]) (h2:Blk W1 gr 3 #[.int .i64 r]) (h3:Blk W1 ga 3 #[.int .i64 q]) (h4:Blk W1 gn 4 #[.bool ng]) (h5:MatZ 150 39 W1 go L2) (a6:q≠r) =>
     Z0x gg gr ga gn go n cap q r ng vby L2 W1 h1 h2 h3 h4 h5 c8.out i2 O a6 (by have:=e4 go (.inl rfl);omega))
    rw[g6]at n3;replace hz:=Za hz;replace r1:=Za r1;replace hp:=Za hp;replace j6:=Za j6;replace n8:=Za n8;have br:(r:Int)<(n:Int):=by omega
    clear m4 fx m0;go_wp2_with fail;refine(hZ.out _).mono ?_;rintro e w5 ⟨rfl,o⟩;clear p0 p1 cx zx;have y0:=w0.below o w0.lt;have y1:=f8.below o f8.lt;have y2:=g8.below o g8.lt;have y3:=g7.below o g7.lt;have ya:=e5.below o e5.lt;have a5:=d5.below o;have i8:=h6.below o;have n9:Hid (Kept (λk=>k=go \/ k ∈ L0.map RZ.g \/ k=gr \/ k=gn \/ k=gl) W0 w5):=Za (p7.out.below o);have r7:=Zb o x0;have m6:=Zb o cq;have r9:=Zb o c1;clear x0 cq c1 w0 f8 g8 g7 e5 d5 h6 b4 a9 p7 zq o;rcases Classical.em (q=r)with a6|a6
    all_goals
     first
     | have o0:q=r:=a6
       have t6:((q:Int) == (r:Int))=true:=beq_iff_eq.2 (by omega);have D8:((q:Int) != (r:Int))=false:=by rw[bne,t6];rfl
       have t7:decide (q=r)=true:=Gv a6;obtain⟨ngz,a1⟩:∃ b:Bool,b=ng:=⟨_,rfl⟩;rw[<- a1]at y2;have x3:Hid ((ng != decide (q≠r))=ngz):=Za (by rw[a1,Gu (by omega:¬ q≠r)];cases ng <;> rfl);replace a1:=Za a1;have x4:L2=L3:=by rw[<- g6,a6];exact(Zst _ _).symm
       rw[x4]at a5;clear x4 g6 n3 o0;replace a6:=Za a6;obtain⟨wz,r8⟩:∃ x:World,x=w5:=⟨_,rfl⟩;subst r8
     | have t6:((q:Int) == (r:Int))=false:=beq_eq_false_iff_ne.2 (by omega)
       have D8:((q:Int) != (r:Int))=true:=by rw[bne,t6];rfl
       have t7:decide (q=r)=false:=Gu a6;obtain⟨ngz,a1⟩:∃ b:Bool,b=!ng:=⟨_,rfl⟩;have x3:Hid ((ng != decide (q≠r))=ngz):=Za (by rw[a1,Gv (by omega:q≠r)];cases ng <;> rfl);have hC:=Za (n3.out w5 y0 y1 ya y2 a5 a6)
       have l5:∀ k,(k=go \/ k=gn)->∃ t cs,Blk w5 k t cs/\NoLimb cs:=λk hk=>by
        rcases hk with rfl|rfl;exact a5.boxes _ (.inl rfl);exact⟨_,_,y2,Zfp (λx=>by simp)⟩
       replace l5:=Za l5;replace y0:=Za y0;replace y1:=Za y1;replace y3:=Za y3;replace i8:=Za i8;clear a5 ya y2 g6 n3;replace a6:=Za a6;replace a1:=Za a1;go_wp2_with fail;refine hC.out.mono ?_;rintro e w6 ⟨rfl,w3,y2,f7⟩;have E7:=e4 go (.inl rfl);have a5:=w3;replace y0:=f7.blk y0.out (by omega);replace y1:=f7.blk y1.out (by omega);replace y3:=f7.blk y3.out (by omega);replace i8:=f7.wd i8.out l5.out;replace n9:Hid (Kept (λk=>k=go \/ k ∈ L0.map RZ.g \/ k=gr \/ k=gn \/ k=gl) W0 w6):=Za (n9.out.and f7 (λk _ h=>by rcases h with h|h <;> simp[h]));clear w3 f7 hC r7 r9 m6;have ya:True:=trivial;have m6:True:=trivial;obtain⟨r7,-,-,-⟩:=y0.two;have r9:w6.cell? ⟨gr,0,none⟩=some (.int .i64 r):=by rw[y1.cell];rfl
       rw[<- a1.out]at y2;obtain⟨wz,r8⟩:∃ x:World,x=w6:=⟨_,rfl⟩;subst r8
    all_goals
     obtain⟨y,hy⟩:=Zcr (L:=L3) (i:=r) (by rw[f6.out];exact O);have w8:y.q.length=m:=by rw[<- Zhn hy];exact g5.out r O
     obtain⟨cy,-⟩:=a5.cell hy;obtain⟨fy,-⟩:=a5.row hy;rw[w8]at cy;obtain⟨pn,pA,pk,pc,p0,p1,q5⟩:=fy.at_ (i:=c) (by rw[w8];omega);rw[<- Zhn hy]at q5;obtain⟨gp,k0⟩:=Gz wz.heap.size;obtain⟨Wp,u5,d6,qp,kW,kB,sP⟩:=Zr 39 #[.bool pn,.slice pA pk pc] (Qe wz.heap.size wz) (Qb _);have q6:Hid (MatZ 150 39 Wp go L3):=Za (a5.below d6);have D6:Hid (Wd Wp ln lA lk lc last):=Za (i8.below d6);have y6:Hid (Wd Wp pn pA pk pc ((Zaz L3 r)[c]?.getD 0)):=Za (q5.below d6);have u2:Hid (Blk Wp gg 152 #[.slice (some ⟨go,0,none⟩) n cap,vby]):=Za (y0.below d6 y0.lt);have B7:Hid (Blk Wp gr 3 #[.int .i64 r]):=Za (y1.below d6 y1.lt);have C1:Hid (Blk Wp gn 4 #[.bool ngz]):=Za (y2.below d6 y2.lt);have B1:Hid (Blk Wp gl 39 #[.bool ln,.slice lA lk lc]):=Za (y3.below d6 y3.lt);have x9:Hid (Kept (λk=>k=go \/ k ∈ L0.map RZ.g \/ k=gr \/ k=gn \/ k=gl) W0 Wp):=Za (n9.out.below d6);have o7:Hid (gl<gp):=Za (by rw[<- k0];exact y3.lt);rw[k0]at qp;have C9:=Za qp;replace k0:=Za k0;have J:Hid (∀ k,gg<=k->k ∉ L3.map RZ.g):=Za (λk hk hm=>by have:=e4 k (.inr (n7.out k hm));omega);obtain⟨D3,-,-,-⟩:=u2.out.two;clear a5 i8 y0 y1 y2 y3 ya fy q5 qp kW kB sP n9 d6;go_wp2_with fail;(try rw[k0.out]);(try rw[u5]);clear u5 cy p0 p1 r7 m6 r9 D3;have k6:Hid (∀ k,k ∈ L3.map RZ.g->∃ t cs,Blk Wp k t cs/\NoLimb cs):=Za (λk hk=>q6.out.boxes k (.inr hk));have F0:Hid (go ∉ L3.map RZ.g):=Za (List.nodup_cons.1 q6.out.2.2).1
     go_loopg [72] n (λk iv wr=>∃ (i:Nat) (L4:List RZ),i+k=n/\iv=.int .i64 i/\MatZ 150 39 wr go L4/\Hid (L4.length=n)/\Hid (L4.map RZ.g=L3.map RZ.g)/\Hid (ClzTo L3 L4 r c last i)/\Kept (λk=>k ∈ L3.map RZ.g) Wp wr)
     case atStart=>exact⟨0,L3,by omega,rfl,q6.out,f6,Za rfl,Za (λj hj=>by rw[Gx (Or.inr (QK j))]),Qn _ _⟩
     case round =>
      obtain⟨i,L4,F5,rfl,c0,b7,j0,l3,a3⟩:=hrel;have b0:=a3.blk u2.out (J.out gg (Qb _));have b1:=a3.blk B7.out (J.out gr (by omega));have b2:=a3.blk C1.out (J.out gn (by omega));have b3:=a3.blk B1.out (J.out gl (by omega));have bp:=a3.blk C9.out (J.out gp (by have:=o7.out;omega));have f9:Wd wr pn pA pk pc ((Zaz L3 r)[c]?.getD 0):=a3.wd y6.out k6.out;have a2:Wd wr ln lA lk lc last:=a3.wd D6.out k6.out;obtain⟨x0,-,-,-⟩:=b0.two;have c1:wr.cell? ⟨gr,0,none⟩=some (.int .i64 r):=by rw[b1.cell];rfl
      have z1:=b1.frozen 0;obtain⟨l0,l1,B4,z9⟩:=b3.two;obtain⟨s0,s1,y9,E4⟩:=bp.two;cases gk with
      | zero =>
       obtain rfl:i=n:=by omega
       have t8:decide ((i:Int)<(i:Int))=false:=by simp
       have q8:L4.map RZ.q=Zdp (L3.map RZ.q) r c last:=ClzTo.done (by rw[f6.out];exact l3.out) (by rw[b7.out,f6.out]);obtain⟨X,hX,d7,q4,st⟩:=Zas (B:=gl) pn pA pk pc (Qe gl wr) (Qb gl) b3;have m1:Blk X gr 3 #[.int .i64 r]:=by rw[<- hX];exact(b1.far d3 _).far d3 _
       have m2:Blk X gn 4 #[.bool ngz]:=by rw[<- hX];exact(b2.far d4 _).far d4 _
       have F2:X.cell? ⟨gr,0,none⟩=some (.int .i64 r):=by rw[m1.cell];rfl
       have F3:=m1.frozen 0
       have b8:Kept (λk=>k=gl \/ k=gr) wr (X.setCell ⟨gr,0,none⟩ (.int .i64 ((r:Int)+1))):=by
        rw[<- hX];exact(((Qn _ wr).set_ (p:=⟨gl,0,none⟩) (.inl (.inl rfl)) _).set_ (p:=⟨gl,1,none⟩) (.inl (.inl rfl)) _).set_ (p:=⟨gr,0,none⟩) (.inl (.inr rfl)) _
       have C:∀ k,(k=gl \/ k=gr)->∃ t cs,Blk wr k t cs/\NoLimb cs:=λk hk=>by
        rcases hk with rfl|rfl;exact⟨_,_,b3,Zgi _ _ _ _⟩;exact⟨_,_,b1,Zfp (λx=>by simp)⟩
       have g9:Hid (MatZ 150 39 (X.setCell ⟨gr,0,none⟩ (.int .i64 ((r:Int)+1))) go L4):=Za (c0.keptG b8 (λh=>by have:=e4 go (.inl rfl);omega) (λs hs h=>by
        have h1:s.g ∈ L3.map RZ.g:=by rw[<- j0.out];exact List.mem_map.2 ⟨s,hs,rfl⟩
        have:=e4 s.g (.inr (n7.out _ h1));omega) C)
       have g4:Hid (Wd (X.setCell ⟨gr,0,none⟩ (.int .i64 ((r:Int)+1))) pn pA pk pc ((Zaz L3 r)[c]?.getD 0)):=Za (b8.wd f9 C);have z5:Hid (Blk (X.setCell ⟨gr,0,none⟩ (.int .i64 ((r:Int)+1))) gr 3 #[.int .i64 ((r:Int)+1)]):=Za (m1.set_ 0 _);have D7:Hid (Blk (X.setCell ⟨gr,0,none⟩ (.int .i64 ((r:Int)+1))) gn 4 #[.bool ngz]):=Za (m2.far (p:=⟨gr,0,none⟩) (Qk d1) _);have z8:Hid (Blk (X.setCell ⟨gr,0,none⟩ (.int .i64 ((r:Int)+1))) gl 39 #[.bool pn,.slice pA pk pc]):=Za (q4.far (p:=⟨gr,0,none⟩) (Qk d3) _);have D2:Hid (Kept (λk=>k=go \/ k ∈ L0.map RZ.g \/ k=gr \/ k=gn \/ k=gl) W0 (X.setCell ⟨gr,0,none⟩ (.int .i64 ((r:Int)+1)))):=Za ((x9.out.and a3 (λk _ h=>.inr (.inl (n7.out k h)))).and b8 (λk _ h=>by rcases h with h|h <;> simp[h]));have C8:Hid (Zar j (c+1) (r+1) (L4.map RZ.q) ngz ((Zaz L3 r)[c]?.getD 0)=FIN):=Za (by rw[q8,o2.out,u6.out,<- x3.out];exact h9.out);have s8:Hid (okZ (pw 200) m j (c+1) (r+1) (L4.map RZ.q) ((Zaz L3 r)[c]?.getD 0)):=Za (by rw[q8,o2.out,u6.out];exact l7.out);have k8:Hid (cols-(c+1)=j):=Za (by have:=hj.out;omega);have C2:Hid (∀ g ∈ L4.map RZ.g,g ∈ L0.map RZ.g):=Za (λg hg=>n7.out g (by rw[<- j0.out];exact hg));clear c0 a3 b0 b1 b2 b3 bp f9 a2 q4 m1 m2 b8 C q8 st d7;go_wp2_with fail;(try rw[hX]);go_wp2_with fail
       go_step3
       refine⟨rfl,?_⟩;refine⟨⟨c+1,r+1,ngz,_,pn,pA,pk,pc,L4,Zl4 rfl rfl rfl rfl rfl rfl rfl (by first|rfl|(show Value.int .i64 _=_;congr 1)) ⟨by omega,by omega,z5.out,D7.out,z8.out,g4.out,g9.out,b7.out,C2.out,by rw[k8.out];exact C8.out,by rw[k8.out];exact s8.out,D2.out⟩⟩,?_⟩;simp[colOf];omega
      | succ gk' =>
       obtain rfl:gk'=n-(i+1):=by omega
       have a7:i<n:=by omega
       have t8:decide ((i:Int)<(n:Int))=true:=Gv (by omega);have bi:(i:Int)<(n:Int):=by omega
       obtain⟨ri,i5⟩:=Zcr (L:=L4) (i:=i) (by rw[b7.out];exact a7);obtain⟨ci,zi⟩:=c0.cell i5;obtain⟨rr,m8⟩:=Zcr (L:=L4) (i:=r) (by rw[b7.out];exact O);obtain⟨cr,zr⟩:=c0.cell m8
       have o4:rr.q=Zaz L3 r:=by
        have:=l3.out r (by rw[f6.out];exact O);rw[Zhn m8,Gx (Qu (Qb r))]at this;exact this
       have r0:rr.q.length=m:=by rw[o4];exact g5.out r O
       rw[r0]at cr;by_cases d0:i<=r
       case pos =>
        have t9:decide ((i:Int)<=(r:Int))=true:=Gv (by omega);have y7:decide (i<=r)=true:=Gv d0;have w9:Hid (ClzTo L3 L4 r c last (i+1)):=Za (l3.out.pass d0);replace c0:=Za c0;replace a3:=Za a3;replace d0:=Za d0;clear b0 b1 b2 b3 bp f9 a2;go_wp2_with fail
        go_roundg (n-(i+1))
        case measure=>omega
        case rel=>exact⟨i+1,L4,by omega,by go_num,c0.out,b7,j0,w9,a3.out⟩
       have t9:decide ((i:Int)<=(r:Int))=false:=Gu (by omega);have y7:decide (i<=r)=false:=Gu d0
       have r5:ri.q=Zaz L3 i:=by
        have:=l3.out i (by rw[f6.out];exact a7);rw[Zhn i5,Gx (Or.inr (Qb i))]at this;exact this
       have r6:ri.q.length=m:=by rw[r5];exact g5.out i a7
       rw[r6]at ci;obtain⟨fi,-⟩:=c0.row i5;obtain⟨m3,hA,hk,j7,p0,p1,i9⟩:=fi.at_ (i:=c) (by rw[r6];omega);rw[r5]at i9;obtain⟨gh,j3⟩:=Gz wr.heap.size;obtain⟨Wh,v5,c6,qh,kW,kB,sh⟩:=Zr 39 #[.bool m3,.slice hA hk j7] (Qe wr.heap.size wr) (Qb _);have u7:Hid (MatZ 150 39 Wh go L4):=Za (c0.below c6);have v4:Hid (Wd Wh m3 hA hk j7 ((Zaz L3 i)[c]?.getD 0)):=Za (i9.below c6);have w4:Hid (Wd Wh pn pA pk pc ((Zaz L3 r)[c]?.getD 0)):=Za (f9.below c6);have s5:Hid (Wd Wh ln lA lk lc last):=Za (a2.below c6);have B9:Hid (Blk Wh gg 152 #[.slice (some ⟨go,0,none⟩) n cap,vby]):=Za (b0.below c6 b0.lt);have E1:Hid (Blk Wh gr 3 #[.int .i64 r]):=Za (b1.below c6 b1.lt);have C6:Hid (Blk Wh gl 39 #[.bool ln,.slice lA lk lc]):=Za (b3.below c6 b3.lt);have bph:Hid (Blk Wh gp 39 #[.bool pn,.slice pA pk pc]):=Za (bp.below c6 bp.lt);have A2:Hid (Kept (λk=>k ∈ L3.map RZ.g) Wp Wh):=Za (a3.below c6);have u4:Hid (gl<gh):=Za (by rw[<- j3];exact b3.lt);rw[j3]at qh;replace qh:=Za qh;replace j3:=Za j3;have h7:Hid (∀ k,k ∈ L3.map RZ.g->∃ t cs,Blk Wh k t cs/\NoLimb cs):=Za (λk hk=>u7.out.boxes k (.inr (by rw[j0.out];exact hk)));replace d0:=Za d0;clear c0 a3 b0 b1 b2 b3 bp f9 a2 i9 fi kW kB sh c6 zi zr cr;go_wp2_with fail;(try rw[j3.out]);(try rw[v5]);clear v5 p0 p1 ci x0 c1 z1 l0 l1 B4 z9 s0 s1 y9 E4
       go_loopg [86] m (λk iv wr=>∃ (t:Nat) (q3:List Int),t+k=m/\iv=.int .i64 t/\MatZ 150 39 wr go (L4.set i ⟨ri.g,q3⟩)/\Hid (q3.length=m)/\Hid (∀ s,q3[s]?.getD 0=if s<t then QB ((Zaz L3 i)[s]?.getD 0*(Zaz L3 r)[c]?.getD 0-(Zaz L3 i)[c]?.getD 0*(Zaz L3 r)[s]?.getD 0) last else (Zaz L3 i)[s]?.getD 0)/\Kept (λk=>k ∈ L3.map RZ.g) Wh wr)
       case atStart =>
        refine⟨0,ri.q,by omega,rfl,?_,Za r6,Za (λs=>by rw[Gw (QL s),r5]),Qn _ _⟩
        have e:L4.set i ⟨ri.g,ri.q⟩=L4:=by
         apply Qz;intro t;rw[Qh]
         split
         rename_i h;subst h;rw[Gx (by rw[b7.out];exact a7),i5];rfl
        rw[e];exact u7.out
       case round =>
        obtain⟨t,q3,F1,rfl,b9,e8,r3,U⟩:=hrel;cases gk with
        | zero =>
         obtain rfl:t=m:=by omega
         have E6:decide ((t:Int)<(t:Int))=false:=by simp
         have i1:Hid ((L4.set i ⟨ri.g,q3⟩).length=n/\(L4.set i ⟨ri.g,q3⟩).map RZ.g=L3.map RZ.g/\ClzTo L3 (L4.set i ⟨ri.g,q3⟩) r c last (i+1)):=Za (by
          refine⟨by rw[Qw];exact b7.out,?_,?_⟩;rw[Zjz (s:=⟨ri.g,q3⟩) i5 rfl];exact j0.out
          ·have o8:=d0.out
           refine l3.out.step (by rw[b7.out,f6.out]) (by rw[f6.out];exact a7) (by omega) ?_;refine rowZ_eq (by rw[e8.out,g5.out i a7]) (λs=>?_);rw[r3.out s,g5.out i a7])
         have f7:Hid (Kept (λk=>k ∈ L3.map RZ.g) Wp wr):=Za (A2.out.trans U);replace b9:=Za b9;clear U;go_wp2_with fail
         go_roundg (n-(i+1))
         case measure=>omega
         case rel=>exact⟨i+1,_,by omega,by go_num,b9.out,Za i1.out.1,Za i1.out.2.1,Za i1.out.2.2,f7.out⟩
        | succ gk3 =>
         obtain rfl:gk3=m-(t+1):=by omega
         have m9:t<m:=by omega
         have E6:decide ((t:Int)<(m:Int))=true:=Gv (by omega);have bt:(t:Int)<(m:Int):=by omega
         have b0:=U.blk B9.out (J.out gg (Qb _));have b1:=U.blk E1.out (J.out gr (by omega));have b3:=U.blk C6.out (J.out gl (by omega));have bp:=U.blk bph.out (J.out gp (by have:=o7.out;omega));have bh:=U.blk qh.out (J.out gh (by have:=u4.out;omega));have f9:Wd wr pn pA pk pc ((Zaz L3 r)[c]?.getD 0):=U.wd w4.out h7.out;have i9:Wd wr m3 hA hk j7 ((Zaz L3 i)[c]?.getD 0):=U.wd v4.out h7.out;have a2:Wd wr ln lA lk lc last:=U.wd s5.out h7.out;have o8:=d0.out;obtain⟨cr,-⟩:=b9.cell (i:=r) (r:=rr) (by rw[Qh,Gw (by omega)];exact m8);rw[r0]at cr;obtain⟨f3,-⟩:=b9.row (i:=i) (r:=⟨ri.g,q3⟩) (by rw[Qh,Gx rfl,Gx (by rw[b7.out];exact a7)]);obtain⟨f4,-⟩:=b9.row (i:=r) (r:=rr) (by rw[Qh,Gw (by omega)];exact m8);obtain⟨n4,A4,k4,c4,u3,w2,p8⟩:=f4.at_ (i:=t) (by rw[r0];exact m9);rw[o4]at p8;obtain⟨n5,A5,k5,c5,u0,u1,r2⟩:=f3.at_ (i:=t) (by rw[show RZ.q ⟨ri.g,q3⟩=q3 from rfl,e8.out];exact m9)
         have p4:q3[t]?.getD 0=(Zaz L3 i)[t]?.getD 0:=by
          have h1:=r3.out t;rw[Gw (by omega)]at h1;exact h1
         simp only[p4]at r2;have v7:=f3.frozen (t*2);have w7:=f3.frozen (t*2+1);obtain⟨x0,-,-,-⟩:=b0.two;have c1:wr.cell? ⟨gr,0,none⟩=some (.int .i64 r):=by rw[b1.cell];rfl
         obtain⟨l0,l1,-,-⟩:=b3.two;obtain⟨s0,s1,-,-⟩:=bp.two;obtain⟨h0,h1,-,-⟩:=bh.two;have m5:((Zaz L3 i)[t]?.getD 0*(Zaz L3 r)[c]?.getD 0).natAbs<pw 400:=Zja (n0.out i t) (n0.out r c);have m7:((Zaz L3 i)[c]?.getD 0*(Zaz L3 r)[t]?.getD 0).natAbs<pw 400:=Zja (n0.out i c) (n0.out r t);have B6:Hid (((Zaz L3 i)[t]?.getD 0*(Zaz L3 r)[c]?.getD 0-(Zaz L3 i)[c]?.getD 0*(Zaz L3 r)[t]?.getD 0).natAbs<pw 4096):=Za (Qf (Zs9 m5 m7) (Zb4 (by decide)));replace m5:=Za (Qf m5 (Zb4 (by decide:400<=4096)));replace m7:=Za (Qf m7 (Zb4 (by decide:400<=4096)));have x8:Hid (last≠0):=Za n6.out.2.1;replace b9:=Za b9;replace U:=Za U;clear f4 f3 b0 b1 b3 bp bh p4 o8;go_wp2_with fail
         have T:Hid (∀ wx,Below wr.heap.size wr wx->wx.cell? ⟨ri.g,t*2,none⟩=some (.bool n5)/\wx.cell? ⟨ri.g,t*2+1,none⟩=some (.slice A5 k5 c5)/\wx.cell? ⟨gp,0,none⟩=some (.bool pn)/\wx.cell? ⟨gp,1,none⟩=some (.slice pA pk pc)/\wx.cell? ⟨gh,0,none⟩=some (.bool m3)/\wx.cell? ⟨gh,1,none⟩=some (.slice hA hk j7)/\wx.cell? ⟨gg,0,none⟩=some (.slice (some ⟨go,0,none⟩) n cap)/\wx.cell? ⟨gr,0,none⟩=some (.int .i64 r)/\wx.cell? ⟨go,r,none⟩=some (.slice (some ⟨rr.g,0,none⟩) m m)/\wx.cell? ⟨rr.g,t*2,none⟩=some (.bool n4)/\wx.cell? ⟨rr.g,t*2+1,none⟩=some (.slice A4 k4 c4)/\wx.cell? ⟨gl,0,none⟩=some (.bool ln)/\wx.cell? ⟨gl,1,none⟩=some (.slice lA lk lc)):=Za (λwx C=>⟨Zb C u0,Zb C u1,Zb C s0,Zb C s1,Zb C h0,Zb C h1,Zb C x0,Zb C c1,Zb C cr,Zb C u3,Zb C w2,Zb C l0,Zb C l1⟩);have e0:Below wr.heap.size wr wr.drew:=Zf (Qe _ _) 1;refine wp_heldS [22] hmx T e0 (λhxs9=>?_);refine Zgl 2 [0,1] rfl (by kernel_rfl) (T.out _ e0) ?_
         iterate 2 (refine tk1 (v:=?_) rfl (Qu ⟨by kernel_rfl,?_⟩) ?_;rotate_left;(· intro W2 _;go_simp;try with_reducible rfl);try simp only[Qa,Zg4,Zgk,Zgx,Gr,Gq,Gp])
         refine tk0 ?_;refine Zjw 15 [2,3,4,5,6,8,9,10,11,12,13,14,15,16,19] rfl (by kernel_rfl) (T.out _ e0) ?_
         iterate 15 (refine tk1 (v:=?_) rfl (Qu ⟨by kernel_rfl,?_⟩) ?_;rotate_left;(· intro W2 hSw;(try dsimp only at hSw);go_simp;try with_reducible rfl);try simp only[Qa,Zg4,Zgk,Zgx,Gr,Gq,Gp])
         refine tk0 ?_;refine wpAnyL_o 7 λK hK=>?_;go_simp;refine(Zfo n5 pn A5 pA k5 c5 pk pc _ _ wr.drew (r2.below e0) (f9.below e0) m5.out).mono ?_;rintro e D9 ⟨o3,C3,A9,E0,E2,rfl,o5⟩;have c7:=e0.trans (o3.mono e0.size);refine hK.out _ _ (λ_=>T.out _ c7) ?_;clear hK K
         try simp only[Qa,Zg4,Zgk,Zgx]
         refine wpAnyL_o 17 λK hK=>?_;go_simp;refine(Zfo m3 n4 hA A4 hk j7 k4 c4 _ _ D9 (i9.below c7) (p8.below c7) m7.out).mono ?_;rintro e A0 ⟨k9,z0,C7,A8,x7,rfl,p5⟩;have i4:=c7.trans (k9.mono c7.size);refine hK.out _ _ (λ_=>T.out _ i4) ?_;clear hK K
         try simp only[Qa,Zg4,Zgk,Zgx]
         refine wpAnyL_o 18 λK hK=>?_;go_simp;refine(lsub_ok C3 z0 A9 C7 E0 E2 A8 x7 _ _ A0 (o5.below k9) p5 B6.out).mono ?_;rintro e D0 ⟨o6,C0,z6,D4,E5,rfl,o9⟩;have d8:=i4.trans (o6.mono i4.size);refine hK.out _ _ (λ_=>T.out _ d8) ?_;clear hK K
         try simp only[Qa,Zg4,Zgk,Zgx]
         refine wpAnyL_o 20 λK hK=>?_;go_simp;refine(Zpm C0 ln z6 lA D4 E5 lk lc _ _ D0 o9 (a2.below d8) x8.out).mono ?_;rintro e D1 ⟨p2,x6,E3,A7,z7,rfl,p3⟩;have Y:=d8.trans (p2.mono d8.size);refine hK.out _ _ (λ_=>T.out _ Y) ?_;clear hK K
         try simp only[Qa,Zg4,Zgk,Zgx]
         refine Zgl 1 [21] rfl (by kernel_rfl) (T.out _ Y) ?_
         (refine tk1 (v:=?_) rfl (Qu ⟨by kernel_rfl,?_⟩) ?_;rotate_left;(· intro W2 _;go_simp;try with_reducible rfl);try simp only[Qa,Zg4,Zgk,Zgx,Gr,Gq,Gp])
         refine tk0 ?_;have a5:=b9.out.below Y;obtain⟨Z9,o1⟩:∃ W,(D1.setCell ⟨ri.g,t*2,none⟩ (.bool x6)).setCell ⟨ri.g,t*2+1,none⟩ (.slice E3 A7 z7)=W:=⟨_,rfl⟩;have t0:ri.g ∈ L3.map RZ.g:=by rw[<- j0.out];exact List.mem_map.2 ⟨ri,List.mem_of_getElem? i5,rfl⟩
         have C5:Hid (Kept (λk=>k ∈ L3.map RZ.g) Wh Z9):=Za (by rw[<- o1];exact((U.out.below Y).set_ (p:=⟨ri.g,t*2,none⟩) (.inl t0) _).set_ (p:=⟨ri.g,t*2+1,none⟩) (.inl t0) _)
         have B3:Hid (MatZ 150 39 Z9 go (L4.set i ⟨ri.g,q3.set t (QB ((Zaz L3 i)[t]?.getD 0*(Zaz L3 r)[c]?.getD 0-(Zaz L3 i)[c]?.getD 0*(Zaz L3 r)[t]?.getD 0) last)⟩)):=Za (by
          have h1:=a5.set_ (i:=i) (r:=⟨ri.g,q3⟩) (by rw[Qh,Gx rfl,Gx (by rw[b7.out];exact a7)]) (k:=t) (by rw[show RZ.q ⟨ri.g,q3⟩=q3 from rfl,e8.out];exact m9) p3;rw[List.set_set]at h1;rw[<- o1];exact h1)
         have f0:=Zn Y u0 v7;have f1:=Zn Y u1 w7;have g0:=Zb Y u0;have g1:=Zb Y u1;clear a5;refine Zm (i:=22) rfl (by kernel_rfl) (by kernel_rfl) (λK hK=>?_);go_simp;(try rw[o1]);refine hK.out _ _ ?_;clear hK K
         try simp only[Qa,Zg4,Zgk,Zgx]
         refine wpAnyL_fin ?_;clear o1 f0 f1 g0 g1 o3 k9 o6 p2 e0 c7 i4 d8 Y T hxs9 u0 u1 v7 w7 u3 w2 s0 s1 h0 h1 x0 c1 cr l0 l1 o5 p5 o9 p3 r2 p8 b9 U f9 i9 a2;go_wp2_with fail
         go_roundg (m-(t+1))
         case measure=>omega
         case rel=>exact⟨t+1,_,by omega,by go_num,B3.out,Za (by rw[Qw];exact e8.out),Za (Zya (by rw[e8.out,g5.out i a7]) (by rw[g5.out i a7];exact m9) rfl r3.out),C5.out⟩
theorem Zfb{P:Program}{ops:Array Oper}{Q:Exit->Act->World->Prop}{md:Region.Mode}{L:List Nat}{S:World->Prop}{i j:Nat}{oi oj:Oper}{fuel:Nat}{listed:Array Bool}{a:Act}{w:World}(hi:ops[i]?=some oi)(hj:ops[j]?=some oj)(hr:Region.ready md ops listed=[i,j])
    (h1:∀ K':Act->World->Prop,Shut (∀ a w,(Zcu L (listed.setIfInBounds i true)=true->S w)->Zaa P md ops Q L S fuel (listed.setIfInBounds i true) a w->K' a w)->if Region.wanted oi (yielded ops a.tmps)=true then Oper.wp P oi a w K' Q else K' (a.put oi.dst undef) w)
    (h2:∀ K':Act->World->Prop,Shut (∀ a w,(Zcu L (listed.setIfInBounds j true)=true->S w)->Zaa P md ops Q L S fuel (listed.setIfInBounds j true) a w->K' a w)->if Region.wanted oj (yielded ops a.tmps)=true then Oper.wp P oj a w K' Q else K' (a.put oj.dst undef) w) :
    Zaa P md ops Q L S (fuel+1) listed a w:=
 ⟨(λh0=>by rw[h0]at hr;cases hr),λk hk=>by
  rw[hr]at hk;rcases List.mem_cons.1 hk with e|e;subst e;exact wpOp_step hi (λK' hK=>h1 K' (λa w hS hW=>hK a w ⟨hS,hW⟩))
  ·rw[Qg]at e;subst e;exact wpOp_step hj (λK' hK=>h2 K' (λa w hS hW=>hK a w ⟨hS,hW⟩))⟩
section
variable{P:Program}(w:World)
theorem Zlg(base:Nat)(t ty e:TypeId)(i:TypeInfo)(ht:P.underlying t=some (.slice e))(hi:P.info? e=some i)(hz:i.zero=some (.agg #[.bool false,.slice none 0 0]))
    (hs:i.size=2) (hby:i.bytes=32) (v:Value) (es:List WE) (hown:RowW e w base v es)
    (B:Nat) (A:Option Addr) (m c:Nat) (fs:List WE) (hr:Reads w B 2 A m (Zam fs)) (hm:fs.length=m) (h63:es.length+m<=1000) (hbase:base<=w.heap.size) :
    ∃ v' w',(QD #[t,t] ty #[v,.slice A m c]).run P w=.ok v' w'/\RowW e w' base v' (es++fs)/\w.grownBy w' v.ownBlock/\(v'.ownBlock=v.ownBlock \/ ∀ k,v'.ownBlock=some k->w.heap.size<=k):=by
 rcases Nat.eq_zero_or_pos m with h0|h0
 ·subst h0
  obtain rfl:fs=[]:=List.eq_nil_of_length_eq_zero hm;rw[List.append_nil];rcases A with _|ad;exact⟨v,w,Zcg w base t ty e i 2 ht hi v _ _ hown.own c,hown,World.grownBy.refl w _,.inl rfl⟩
  ·have hf:=run_firstCells_some (P:=P) w i.size 0 ad 0 c [] (by simp) (by simp)
   rcases hown with ⟨rfl,rfl⟩|⟨g,sp,rfl,h2,h3,h4⟩
   ·refine⟨.slice none 0 0,w,?_,.inl ⟨rfl,rfl⟩,World.grownBy.refl w _,.inl rfl⟩
    simp[QD,run_underlying ht,sizeOf,typeInfo,hi,Builtin.lenOf,Builtin.firstCells,loadCells,loadCellsFrom]
   ·refine⟨_,w,?_,.inr ⟨g,sp,rfl,h2,h3,h4⟩,World.grownBy.refl w _,.inl rfl⟩
    simp[QD,run_underlying ht,sizeOf,typeInfo,hi,Builtin.lenOf,Builtin.firstCells,loadCells,loadCellsFrom,storeCells]
 ·obtain⟨ad,rfl,_,hc⟩:=hr.2 h0
  have hl:(Zam fs).length=m*i.size:=by rw[Za8,hm,hs]
  have o:es.length*i.size=(Zam es).length:=by rw[Za8,hs]
  rcases hown with ⟨rfl,rfl⟩|⟨g,sp,rfl,h2,h3,h4⟩
  ·have f:=run_append_nil (P:=P) w t ty e i _ ht hi hz ad m c (Zam fs) hl hc h0 (by omega) (by rw[hby];omega)
   have h:=grownCap_ge w m 0 e;have y:=grownCap_le_maxLen w m 0 e (by unfold maxLen;simp only[List.length_nil]at h63;omega);refine⟨_,_,f,.inr ⟨w.heap.size,grownCap w m 0 e-m,?_,hbase,?_,?_⟩,⟨rfl,rfl,rfl,by simp,λk hk _=>Below.heap_alloc w.drew _ k hk⟩,.inr (λk hk=>by first|(simp[Value.ownBlock]at hk;omega)|(cases hk;exact Qb _))⟩;rw[QM,hm,Qr h];rw[QM,hm,Qr h];exact y
   ·have:=heap_alloc_new w.drew (.cells ((Zam fs).toArray++Qt (Value.agg #[.bool false,.slice none 0 0]).cells (grownCap w m 0 e-m)) e)
    unfold Blk;refine this.trans ?_;congr 1
    have hx:(Zam fs).toArray++Qt (Value.agg #[.bool false,.slice none 0 0]).cells (grownCap w m 0 e-m)=Zbt ([]++fs++Qj (grownCap w m 0 e-m) Zco):=by
     apply Array.toList_inj.1;rw[Qx,show (Value.agg #[.bool false,.slice none 0 0]).cells=#[.bool false,.slice none 0 0] from rfl,Zil];simp[Zbt,Zc0]
    rw[hx]
  ·by_cases hroom:m<=sp
   ·have f:=run_append_room (P:=P) w t ty e i ht hi g es.length (es.length+sp) _ h4 ad m c (Zam fs) hl hc (Ztx fs) (by omega) (by rw[o,Za8,Za8];simp[Zbt,Za8];omega)
    refine⟨_,_,f,.inr ⟨g,sp-m,?_,h2,?_,?_⟩,⟨rfl,rfl,rfl,by simp[World.setRow],λk _ hk=>setRow_other w g k _ (λe'=>hk (by simp[Value.ownBlock,e']))⟩,.inl rfl⟩;rw[Qo,hm,show es.length+m+(sp-m)=es.length+sp by omega];rw[Qo,hm];omega
    ·refine(setRow_heap w g _ _ e _ h4).trans ?_
     congr 2;unfold Zbt;congr 1;rw[o];have I:Qj sp Zco=Qj m Zco++Qj (sp-m) Zco:=by rw[List.replicate_append_replicate];congr 1;omega
     have J:(Zam fs).length=(Zam (Qj m Zco)).length:=by rw[Za8,Za8,hm,List.length_replicate]
     simp only[Zc0];rw[List.take_left,J,<- Qo,I,Zc0,<- QJ (Zam es),List.drop_left,QJ]
   ·have C:∀ j u,(Zam es)[j]?=some u->w.cell? ((⟨g,0,none⟩:Addr).add j)=some u:=λj u hu=>by
      rw[Zg,QF,h4.cell];simp only[Zbt,List.getElem?_toArray,Zc0];rw[List.getElem?_append_left (by rw[List.getElem?_eq_some_iff]at hu;exact hu.1)];exact hu
    have f:=run_append_grow (P:=P) w t ty e i _ ht hi hz ⟨g,0,none⟩ es.length (es.length+sp) (Zam es) o.symm C ad m c (Zam fs) hl hc (by omega) (by omega) (growslice_fits (by omega) (by rw[hby];omega));have h:=grownCap_ge w (es.length+m) (es.length+sp) e;have y:=grownCap_le_maxLen w (es.length+m) (es.length+sp) e (by unfold maxLen;omega);refine⟨_,_,f,.inr ⟨w.heap.size,grownCap w (es.length+m) (es.length+sp) e-(es.length+m),?_,hbase,?_,?_⟩,⟨rfl,rfl,rfl,by simp,λk hk _=>Below.heap_alloc w.drew _ k hk⟩,.inr (λk hk=>by first|(simp[Value.ownBlock]at hk;omega)|(cases hk;exact Qb _))⟩;rw[Qo,hm,Qr h];rw[Qo,hm,Qr h];exact y
    ·have:=heap_alloc_new w.drew (.cells ((Zam es).toArray++(Zam fs).toArray++Qt (Value.agg #[.bool false,.slice none 0 0]).cells (grownCap w (es.length+m) (es.length+sp) e-(es.length+m))) e)
     unfold Blk;refine this.trans ?_;congr 1
     have hx:(Zam es).toArray++(Zam fs).toArray++Qt (Value.agg #[.bool false,.slice none 0 0]).cells (grownCap w (es.length+m) (es.length+sp) e-(es.length+m))=Zbt (es++fs++Qj (grownCap w (es.length+m) (es.length+sp) e-(es.length+m)) Zco):=by
      apply Array.toList_inj.1;rw[Qx,Qx,show (Value.agg #[.bool false,.slice none 0 0]).cells=#[.bool false,.slice none 0 0] from rfl,Zil];simp[Zbt,Zc0]
     rw[hx]
theorem Zcm{o:Oper}{a:Act}{K:Act->World->Prop}{Q:Exit->Act->World->Prop}(s x:Operand)(t:TypeId)
    (ho:o.op=.call { callee:=.builtin .append,args:=#[s,x],argTypes:=#[t,t] })
    (base:Nat) (e:TypeId) (i:TypeInfo) (ht:P.underlying t=some (.slice e)) (hi:P.info? e=some i) (hz:i.zero=some (.agg #[.bool false,.slice none 0 0])) (hsi:i.size=2) (hby:i.bytes=32)
    (v:Value) (xs:List Int) (hs:a.eval s=v) (hown:OwnP e w base v xs)
    (B:Nat) (A:Option Addr) (m c:Nat) (fs:List WE) (hx:a.eval x=.slice A m c) (hr:Reads w B 2 A m (Zam fs)) (hm:fs.length=m) (hfs:∀ e ∈ fs,Lim w e.A e.n e.c e.l/\e.ok=true)
    (h63:xs.length+m<=1000) (hbase:base<=w.heap.size)
    (h:∀ v' w',OwnP e w' base v' (xs++fs.map WE.num)->w.grownBy w' v.ownBlock->(∀ (A:Option Addr) (n c:Nat) (l:List Nat),Lim w A n c l->Lim w' A n c l)->(v'.ownBlock=v.ownBlock \/ ∀ k,v'.ownBlock=some k->w.heap.size<=k)->K (a.put o.dst v') w'):o.wp P a w K Q:=by
 obtain⟨es,h1,h2,rfl⟩:=hown;rw[Qi]at h63;obtain⟨v',w',f,h3,h4,h5⟩:=Zlg (P:=P) w base t o.type e i ht hi hz hsi hby v es h1 B A m c fs hr hm h63 hbase;unfold Oper.wp execOp;simp only[ho,resolve,invoke,builtin,Sem.run_bind,Sem.run_pure,Result.andThen_ok,List.map_toArray,List.map_cons,List.map_nil,hs,hx,f];have hk:∀ (A:Option Addr) (n c:Nat) (l:List Nat),Lim w A n c l->Lim w' A n c l:=λ_ _ _ _ hL=>h1.keep h4 hL;refine h v' w' ⟨es++fs,h3,λe he=>?_,by rw[Qd]⟩ h4 hk h5;rcases List.mem_append.1 he with he|he;exact⟨hk _ _ _ _ (h2 e he).1,(h2 e he).2⟩;exact⟨hk _ _ _ _ (hfs e he).1,(hfs e he).2⟩
end
def MatOZ(tS tF:TypeId)(w:World)(base:Nat)(v:Value)(L:List RZ):Prop:=
 RowS tS w base v (L.map RZ.rs)/\(∀ r ∈ L,(POwn tF w r.g r.q/\r.q.length<=maxLen)/\base<=r.g)/\(L.map RZ.g).Nodup
section
variable{tS tF:TypeId}{w w':World}{base:Nat}{v v':Value}{L:List RZ}
theorem MatOZ.nil(tS tF:TypeId)(w:World)(base:Nat):MatOZ tS tF w base (.slice none 0 0) []:=⟨.inl ⟨rfl,rfl⟩,λr hr=>(by cases hr),List.nodup_nil⟩
theorem MatOZ.kept(h:MatOZ tS tF w base v L)(hb:Below w.heap.size w w'):MatOZ tS tF w' base v L:=⟨h.1.kept hb,λr hr=>⟨⟨(h.2.1 r hr).1.1.below hb,(h.2.1 r hr).1.2⟩,(h.2.1 r hr).2⟩,h.2.2⟩
theorem POwn.grown{g:Nat}{qs:List Int}(h:POwn tF w g qs)(hg:w.grownBy w' v.ownBlock)(hne:v.ownBlock≠some g)(hk:∀ (A:Option Addr) (n c:Nat) (l:List Nat),Lim w A n c l->Lim w' A n c l):POwn tF w' g qs:=by
 obtain⟨es,h1,h2,h3⟩:=h;exact⟨es,(hg.block g h1.lt (λe=>hne (by first|exact e|exact e.symm))).trans h1,λe he=>⟨hk _ _ _ _ (h2 e he).1,(h2 e he).2⟩,h3⟩
theorem MatOZ.snoc(h:MatOZ tS tF w base v L)(hne:tS≠tF){r:RZ}(hr:POwn tF w r.g r.q/\r.q.length<=maxLen)(hbr:base<=r.g)(hnew:∀ s ∈ L,s.g≠r.g)(h1:RowS tS w' base v' (L.map RZ.rs ++ [r.rs]))(hg:w.grownBy w' v.ownBlock)
    (hk:∀ (A:Option Addr) (n c:Nat) (l:List Nat),Lim w A n c l->Lim w' A n c l):MatOZ tS tF w' base v' (L ++ [r]):=by
 have ow:∀ {s:RZ},POwn tF w s.g s.q->v.ownBlock≠some s.g:=λhs=>by obtain⟨es,q1,-,-⟩:=hs;exact h.1.ownType q1 hne
 refine⟨by rw[Qd];exact h1,λs hs=>?_,?_⟩
 ·rcases List.mem_append.1 hs with hs|hs
  ·have:=h.2.1 s hs
   exact⟨⟨this.1.1.grown hg (ow this.1.1) hk,this.1.2⟩,this.2⟩
  ·rw[Qg]at hs
   subst hs;exact⟨⟨hr.1.grown hg (ow hr.1) hk,hr.2⟩,hbr⟩
 ·rw[Qd,List.nodup_append]
  refine⟨h.2.2,by simp,λa ha b hb=>?_⟩;obtain⟨s,hs,rfl⟩:=List.mem_map.1 ha;simp only[List.map_cons,List.map_nil,Qg]at hb;rw[hb];exact hnew s hs
theorem MatOZ.mat(h:MatOZ tS tF w base v L)(hne:tS≠tF)(hl:L ≠ []):∃ go cap,v=.slice (some ⟨go,0,none⟩) L.length cap/\L.length<=cap/\cap<=maxLen/\base<=go/\MatZ tS tF w go L/\∀ r ∈ L,base<=r.g:=by
 rcases h.1 with ⟨-,h2⟩|⟨go,sp,rfl,h2,h3,h4⟩;exact absurd (List.map_eq_nil_iff.1 h2) hl
 ·refine⟨go,_,by rw[Qi],by rw[Qi];omega,h3,h2,⟨⟨_,h4⟩,λr hr=>(h.2.1 r hr).1,?_⟩,λr hr=>(h.2.1 r hr).2⟩
  refine List.nodup_cons.2 ⟨λhm=>?_,h.2.2⟩;obtain⟨r,hr,e⟩:=List.mem_map.1 hm;obtain⟨es,q1,-,-⟩:=(h.2.1 r hr).1.1;rw[e]at q1;exact hne (h4.type q1)
end
section
variable{tS tW t':TypeId}{w:World}{base:Nat}{v:Value}{L:List RZ}{xs:List Int}{rs:List RS}
theorem RowS.isSlice(h:RowS tS w base v rs):∃ A n c,v=.slice A n c:=by
 rcases h with ⟨rfl,_⟩|⟨g,sp,rfl,_⟩;exact⟨_,_,_,rfl⟩;exact⟨_,_,_,rfl⟩
theorem RowS.mono{b:Nat}(h:RowS tS w base v rs)(hb:b<=base):RowS tS w b v rs:=by
 rcases h with h|⟨g,sp,h1,h2,h3⟩;exact .inl h;exact .inr ⟨g,sp,h1,Qs hb h2,h3⟩
theorem MatOZ.mono{b:Nat}(h:MatOZ tS tW w base v L)(hb:b<=base):MatOZ tS tW w b v L:=⟨h.1.mono hb,λr hr=>⟨(h.2.1 r hr).1,Qs hb (h.2.1 r hr).2⟩,h.2.2⟩
theorem OwnP.isSlice(h:OwnP tW w base v xs):∃ A n c,v=.slice A n c:=by
 obtain⟨A,c,e,-⟩:=h.poly;exact⟨_,_,_,e⟩
theorem OwnP.mono{b:Nat}(h:OwnP tW w base v xs)(hb:b<=base):OwnP tW w b v xs:=by
 obtain⟨es,h1,h2,h3⟩:=h;refine⟨es,?_,h2,h3⟩;rcases h1 with h|⟨g,sp,h1,h2,h3⟩;exact .inl h;exact .inr ⟨g,sp,h1,Qs hb h2,h3⟩
theorem RowS.far{g:Nat}(h:RowS tS w base v rs)(hg:g<base)(i:Nat)(u:Value):RowS tS (w.setCell ⟨g,i,none⟩ u) base v rs:=by
 rcases h with h|⟨g',sp,h1,h2,h3,h4⟩;exact .inl h;exact .inr ⟨g',sp,h1,h2,h3,h4.far (p:=⟨g,i,none⟩) (by show g'≠g;omega) u⟩
theorem MatOZ.far{g:Nat}{cs:Array Value}(h:MatOZ tS tW w base v L)(hg:g<base)(hb:Blk w g t' cs)(hcs:NoLimb cs)(i:Nat)(u:Value):MatOZ tS tW (w.setCell ⟨g,i,none⟩ u) base v L:=by
 refine⟨h.1.far hg i u,λr hr=>⟨⟨?_,(h.2.1 r hr).1.2⟩,(h.2.1 r hr).2⟩,h.2.2⟩;have f:=(h.2.1 r hr).2;obtain⟨es,q1,q2,q3⟩:=(h.2.1 r hr).1.1;exact⟨es,q1.far (p:=⟨g,i,none⟩) (by show r.g≠g;omega) u,λe he=>⟨(q2 e he).1.set_box hb hcs i u,(q2 e he).2⟩,q3⟩
theorem OwnP.far{g:Nat}{cs:Array Value}(h:OwnP tW w base v xs)(hg:g<base)(hb:Blk w g t' cs)(hcs:NoLimb cs)(i:Nat)(u:Value):OwnP tW (w.setCell ⟨g,i,none⟩ u) base v xs:=by
 obtain⟨es,h1,h2,h3⟩:=h;refine⟨es,?_,λe he=>⟨(h2 e he).1.set_box hb hcs i u,(h2 e he).2⟩,h3⟩;rcases h1 with h|⟨g',sp,h1,h2,h3,h4⟩;exact .inl h;exact .inr ⟨g',sp,h1,h2,h3,h4.far (p:=⟨g,i,none⟩) (by show g'≠g;omega) u⟩
theorem Zlo{x y:Value}(hx:∀ k,x≠limb k)(hy:∀ k,y≠limb k):NoLimb #[x,y]:=λi k=>by
 match i with
 | 0=>simpa using hx k
 | 1=>simpa using hy k
 | i+2=>simp
theorem Ze7{g:Nat}{x0 y0 x y:Value}{base2:Nat}(hb:Blk w g t' #[x0,y0])(h0:∀ k,x0≠limb k)(h1:∀ k,y0≠limb k)(hx:∀ k,x≠limb k)(hM:MatOZ tS tW w base v L)(hg:g<base){v2:Value}(hP:OwnP tW w base2 v2 xs)(hg2:g<base2) :
    Blk ((w.setCell ⟨g,0,none⟩ x).setCell ⟨g,1,none⟩ y) g t' #[x,y]/\MatOZ tS tW ((w.setCell ⟨g,0,none⟩ x).setCell ⟨g,1,none⟩ y) base v L/\OwnP tW ((w.setCell ⟨g,0,none⟩ x).setCell ⟨g,1,none⟩ y) base2 v2 xs:=by
 have e:Blk (w.setCell ⟨g,0,none⟩ x) g t' #[x,y0]:=hb.set_ 0 x;have f:Blk ((w.setCell ⟨g,0,none⟩ x).setCell ⟨g,1,none⟩ y) g t' #[x,y]:=e.set_ 1 y;exact⟨f,(hM.far hg hb (Zlo h0 h1) 0 x).far hg e (Zlo hx h1) 1 y,(hP.far hg2 hb (Zlo h0 h1) 0 x).far hg2 e (Zlo hx h1) 1 y⟩
end
section
variable{tS tW tG:TypeId}{w w' W0:World}{g3 gd gO base:Nat}{v1 v1' v2 v2':Value}{L:List RZ}{xs q:List Int}{dn:Bool}{dA:Option Addr}{dk dc:Nat}{D:Int}
def EnvW(tS tW tG:TypeId)(w:World)(g3 gd gO base:Nat)(v1 v2:Value)(L:List RZ)(xs:List Int)(dn:Bool)(dA:Option Addr)(dk dc:Nat)(D:Int)(q:List Int):Prop:=
 MatOZ tS tW w base v1 L/\(POwn tW w gO q/\q.length<=maxLen)/\OwnP tW w base v2 xs/\Blk w gd tW #[.bool dn,.slice dA dk dc]/\Wd w dn dA dk dc D/\Blk w g3 tG #[v1,v2]/\(g3<base/\base<=gO)/\(∀ s ∈ L,s.g≠gO)/\v2.ownBlock≠some gO/\(∀ s ∈ L,v2.ownBlock≠some s.g)
theorem EnvW.below(h:EnvW tS tW tG w g3 gd gO base v1 v2 L xs dn dA dk dc D q)(hb:Below w.heap.size w w'):EnvW tS tW tG w' g3 gd gO base v1 v2 L xs dn dA dk dc D q:=by
 obtain⟨h1,h2,h3,h4,h5,h6,h7⟩:=h;exact⟨h1.kept hb,⟨h2.1.below hb,h2.2⟩,h3.kept hb,Zc hb h4,h5.below hb,Zc hb h6,h7⟩
def EnvA(tS tW tG:TypeId)(w:World)(g3 gd base:Nat)(v1 v2 v1':Value)(L:List RZ)(xs:List Int)(dn:Bool)(dA:Option Addr)(dk dc:Nat)(D:Int):Prop:=
 MatOZ tS tW w base v1' L/\OwnP tW w base v2 xs/\Blk w gd tW #[.bool dn,.slice dA dk dc]/\Wd w dn dA dk dc D/\Blk w g3 tG #[v1,v2]/\g3<base/\(∀ s ∈ L,v2.ownBlock≠some s.g)
theorem EnvA.below(h:EnvA tS tW tG w g3 gd base v1 v2 v1' L xs dn dA dk dc D)(hb:Below w.heap.size w w'):EnvA tS tW tG w' g3 gd base v1 v2 v1' L xs dn dA dk dc D:=by
 obtain⟨h1,h3,h4,h5,h6,h7⟩:=h;exact⟨h1.kept hb,h3.kept hb,Zc hb h4,h5.below hb,Zc hb h6,h7⟩
theorem OwnP.grownT(h:OwnP tW w base v2 xs)(hg:w.grownBy w' v1.ownBlock)(hne:∀ g cs,Blk w g tW cs->v1.ownBlock≠some g)(hk:∀ (A:Option Addr) (n c:Nat) (l:List Nat),Lim w A n c l->Lim w' A n c l):OwnP tW w' base v2 xs:=by
 obtain⟨es,h1,h2,h3⟩:=h;refine⟨es,?_,λe he=>⟨hk _ _ _ _ (h2 e he).1,(h2 e he).2⟩,h3⟩;rcases h1 with h|⟨g',sp,h1,h2,h3,h4⟩;exact .inl h
 ·exact .inr ⟨g',sp,h1,h2,h3,(hg.block g' h4.lt (λe=>hne g' _ h4 (by first|exact e|exact e.symm))).trans h4⟩
theorem EnvW.app(h:EnvW tS tW tG w g3 gd gO base v1 v2 L xs dn dA dk dc D q)(t1:tS≠tW)(t2:tS≠tG)(hR:RowS tS w' base v1' (L.map RZ.rs ++ [RZ.rs ⟨gO,q⟩]))(hg:w.grownBy w' v1.ownBlock)(hk:∀ (A:Option Addr) (n c:Nat) (l:List Nat),Lim w A n c l->Lim w' A n c l) :
    EnvA tS tW tG w' g3 gd base v1 v2 v1' (L ++ [⟨gO,q⟩]) xs dn dA dk dc D:=by
 obtain⟨h1,h2,h3,h4,h5,h6,h7,h8,h9,f⟩:=h;refine⟨h1.snoc t1 (r:=⟨gO,q⟩) h2 h7.2 h8 hR hg hk,h3.grownT hg (λg cs hb=>h1.1.ownType hb t1) hk,(hg.block gd h4.lt (λe=>h1.1.ownType h4 t1 (by first|exact e|exact e.symm))).trans h4,h5.of_keep hk,(hg.block g3 h6.lt (λe=>h1.1.ownType h6 t2 (by first|exact e|exact e.symm))).trans h6,h7.1,λs hs=>?_⟩;rcases List.mem_append.1 hs with hs|hs;exact f s hs;rw[Qg]at hs;subst hs;exact h9
theorem RowS.grownP{rs:List RS}(h:RowS tS w base v1 rs)(hg:w.grownBy w' v2.ownBlock)(hne:∀ g cs,Blk w g tS cs->v2.ownBlock≠some g):RowS tS w' base v1 rs:=by
 rcases h with h|⟨g',sp,h1,h2,h3,h4⟩;exact .inl h
 ·exact .inr ⟨g',sp,h1,h2,h3,(hg.block g' h4.lt (λe=>hne g' _ h4 (by first|exact e|exact e.symm))).trans h4⟩
theorem OwnP.ownType{t:TypeId}(h:OwnP tW w base v2 xs){g:Nat}{cs:Array Value}(hb:Blk w g t cs)(hne:tW≠t):v2.ownBlock≠some g:=by
 rintro e;obtain⟨es,h1,-,-⟩:=h;rcases h1 with ⟨rfl,_⟩|⟨g',sp,rfl,_,_,h4⟩;cases e
 ·have:g'=g:=by simpa [Value.ownBlock]using e
  subst this;exact hne (h4.type hb)
theorem EnvA.app(h:EnvA tS tW tG w g3 gd base v1 v2 v1' L xs dn dA dk dc D)(t1:tS≠tW)(hP:OwnP tW w' base v2' (xs ++ [D]))(hg:w.grownBy w' v2.ownBlock)(hk:∀ (A:Option Addr) (n c:Nat) (l:List Nat),Lim w A n c l->Lim w' A n c l)(hw:v2'.ownBlock=v2.ownBlock \/ ∀ k,v2'.ownBlock=some k->w.heap.size<=k) :
    MatOZ tS tW w' base v1' L/\OwnP tW w' base v2' (xs ++ [D])/\Blk w' g3 tG #[v1,v2]/\∀ s ∈ L,v2'.ownBlock≠some s.g:=by
 obtain⟨h1,h3,-,h5,h6,h7,h8⟩:=h;refine⟨⟨h1.1.grownP hg (λg cs hb=>h3.ownType hb (Qk t1)),λs hs=>⟨⟨(h1.2.1 s hs).1.1.grown hg (h8 s hs) hk,(h1.2.1 s hs).1.2⟩,(h1.2.1 s hs).2⟩,h1.2.2⟩,hP,(hg.block g3 h6.lt (λe=>?_)).trans h6,λs hs e=>?_⟩
 ·have:=h3.row_ge g3 (by first|exact e|exact e.symm);omega
 ·rcases hw with hw|hw
  exact h8 s hs (by rw[<- hw];exact e)
  ·have:=hw _ e
   have:=(h1.2.1 s hs).1.1.lt;omega
theorem EnvW.far{t:TypeId}{g:Nat}{cs:Array Value}(h:EnvW tS tW tG w g3 gd gO base v1 v2 L xs dn dA dk dc D q)(t1:tS≠t)(hg:w.grownBy w' v1.ownBlock)(hb:Blk w g t cs):Blk w' g t cs:=
 (hg.block g hb.lt (λe=>h.1.1.ownType hb t1 (by first|exact e|exact e.symm))).trans hb
theorem Zeg{t:TypeId}{g:Nat}{A:Option Addr}{n c:Nat}(h:Blk w g t #[.slice A n c]):Reads w (g+1) 1 (some ⟨g,0,none⟩) 1 (Zav [⟨A,n,c⟩]):=
 ⟨rfl,λ_=>⟨_,rfl,QC _,λj u hu=>by
  rw[Zg,QF,h.cell];simpa [Zav]using hu⟩⟩
theorem Zea{t:TypeId}{g:Nat}{neg:Bool}{A:Option Addr}{n c:Nat}(l:List Nat)(h:Blk w g t #[.bool neg,.slice A n c]):Reads w (g+1) 2 (some ⟨g,0,none⟩) 1 (Zam [⟨neg,A,n,c,l⟩]):=
 ⟨rfl,λ_=>⟨_,rfl,QC _,λj u hu=>by
  rw[Zg,QF,h.cell];simpa [Zam]using hu⟩⟩
theorem EnvW.cells(h:EnvW tS tW tG w g3 gd gO base v1 v2 L xs dn dA dk dc D q):w.cell? ⟨g3,0,none⟩=some v1/\w.cell? ⟨g3,1,none⟩=some v2:=by
 have:=h.2.2.2.2.2.1;exact⟨by rw[this.cell];rfl,by rw[this.cell];rfl⟩
theorem EnvA.cells(h:EnvA tS tW tG w g3 gd base v1 v2 v1' L xs dn dA dk dc D):w.cell? ⟨g3,0,none⟩=some v1/\w.cell? ⟨g3,1,none⟩=some v2:=by
 have:=h.2.2.2.2.1;exact⟨by rw[this.cell];rfl,by rw[this.cell];rfl⟩
theorem Kept.grownG{G:Nat->Prop}{row:Option Nat}(h:Kept G W0 w)(hg:w.grownBy w' row)(hr:∀ k,row=some k->W0.heap.size<=k):Kept G W0 w':=
 ⟨hg.os.trans h.os,hg.tape.trans h.tape,hg.output.trans h.output,Qs h.size hg.size,λk hk hG=>(hg.block k (Qf hk h.size) (λe=>by have:=hr k (by first|exact e|exact e.symm);omega)).trans (h.block k hk hG)⟩
theorem Kept.of_belowGe{g:Nat}(h:Below g w w'):Kept (λk=>g<=k) w w':=⟨h.os,h.tape,h.output,h.size,λk _ hk=>h.block k (by omega)⟩
end
theorem Zy9:(Tryz.prog.info? 39).map (λi=>(i.zero,i.size,i.bytes))=some (some (.agg #[.bool false,.slice none 0 0]),2,32):=by kernel_rfl
theorem Zyl:(Tryz.prog.info? 150).map (λi=>(i.zero,i.size,i.bytes))=some (some (.slice none 0 0),1,24):=by kernel_rfl
theorem Zj8(a b:Nat):QB (a:Int) (b:Int)=((a/b:Nat):Int):=by rw[Int.fdiv_eq_ediv_of_nonneg _ (by omega)];rfl
theorem Zp4(row:List Rat){j k:Nat}(h:j<k):(row[j]?.getD 0).den<=denTo row k:=Nat.le_of_dvd (Zed _ _) (Zig row h)
theorem Zpa(A:Option Addr)(n c m:Nat)(Q:List (List Rat))(w:World)(h:MFL w A n c Q)(hn9:n<=900)(hm:∀ i,i<n->(Q[i]?.getD []).length=m)(hm0:0<m)(hm9:m<=900)
    (r8:∀ i k,i<n->k<=m->denTo (Q[i]?.getD []) k<pw 1000) (r6:∀ i j,(Zh Q i j).num.natAbs<pw 1000) :
    Calls Tryz.prog 127 #[.slice A n c] w λe w'=>∃ v vby L,e=.returned (.agg #[v,vby])/\Below w.heap.size w w'/\MatOZ 150 39 w' w.heap.size v L/\L.map RZ.q=Z8 Q /\
     OwnP 39 w' w.heap.size vby ((QA n).map λi=>((denAt Q i:Nat):Int))/\∀ s ∈ L,vby.ownBlock≠some s.g:=by
 obtain⟨iW,hi,h7,j1,i3⟩:=info_parts Zy9;obtain⟨iS,ki,m4,m5,l4⟩:=info_parts Zyl;have hmx:=Gt
 have b9:(150:TypeId)≠39:=by decide
 have hl:=Za h.1;have M9:=h.2.1;have J9:=h.2.2.1;unfold maxLen at J9;replace hm:=Za hm;replace r8:=Za r8;replace r6:=Za r6;obtain⟨W0,H5,p6,⟨q0,q1⟩,s0⟩:=Zdb w 152 #[.slice none 0 0,.slice none 0 0] 152 #[.slice none 0 0,.slice none 0 0];have K5:=Za h;obtain⟨gR,g8⟩:=Gz w.heap.size;rw[g8]at q0 q1 s0 p6;obtain⟨g3,u8⟩:=Gz (gR+1);rw[u8]at q1;have J2:Hid (W0.heap.size=g3+1):=Za (by rw[s0];omega);have K4:Hid (gR<g3):=Za (by omega);clear h;replace q0:=Za q0;replace q1:=Za q1;go_enter Tryz.func127,Tryz.ntmps127;go_wp2_with fail;(try rw[H5]);(try rw[g8]);(try rw[u8]);replace g8:=Za g8;replace u8:=Za u8;replace p6:=Za p6;clear H5 s0
 go_loopg [16] n (λk iv wr=>∃ (i:Nat) (v1 v2:Value) (L:List RZ),i+k=n/\iv=.int .i64 i/\Blk wr g3 152 #[v1,v2]/\MatOZ 150 39 wr W0.heap.size v1 L/\Hid (L.map RZ.q=(Q.take i).map Zd2)/\OwnP 39 wr W0.heap.size v2 ((QA i).map λi=>((denAt Q i:Nat):Int))/\Hid (∀ s ∈ L,v2.ownBlock≠some s.g)/\Kept (λk=>k=g3) W0 wr)
 case atStart=>exact⟨0,.slice none 0 0,.slice none 0 0,[],by omega,rfl,q1.out,MatOZ.nil _ _ _ _,Za (by simp),OwnP.nil _ _ _,Za (λs hs=>(by cases hs)),Qn _ _⟩
 case round =>
  obtain⟨i,v1,v2,L,N0,rfl,f6,e7,g9,e6,x5,hK⟩:=hrel;have M2:=K4.out;have L6:=J2.out;have j9:=hK.blk q0.out (by omega);have M8:∀ k,k=g3->∃ t cs,Blk W0 k t cs/\NoLimb cs:=λk hk=>⟨_,_,(hk▸q1.out:Blk W0 k 152 #[.slice none 0 0,.slice none 0 0]),λi u=>by match i with|0=>simp|1=>simp|i+2=>simp⟩;cases gk with
  | zero =>
   obtain rfl:i=n:=by omega
   have t1:decide ((i:Int)<(i:Int))=false:=by simp
   have b0:wr.cell? ⟨g3,0,none⟩=some v1:=by rw[f6.cell];rfl
   have b1:wr.cell? ⟨g3,1,none⟩=some v2:=by rw[f6.cell];rfl
   have r0:wr.cell? ⟨gR,0,none⟩=some (.slice none 0 0):=by rw[j9.cell];rfl
   have r1:wr.cell? ⟨gR,1,none⟩=some (.slice none 0 0):=by rw[j9.cell];rfl
   have z0:=j9.frozen 0;have z1:=j9.frozen 1;replace e7:=Za e7;replace e6:=Za e6;obtain⟨a1,a2,a3,rfl⟩:=e7.out.1.isSlice;obtain⟨a4,a5,a6,rfl⟩:=e6.out.isSlice;obtain⟨X,hX⟩:∃ X,(wr.setCell ⟨gR,0,none⟩ (.slice a1 a2 a3)).setCell ⟨gR,1,none⟩ (.slice a4 a5 a6)=X:=⟨_,rfl⟩;have o:=Ze7 (x:=.slice a1 a2 a3) (y:=.slice a4 a5 a6) j9 (λk=>by simp) (λk=>by simp) (λk=>by simp) e7.out (by omega) e6.out (by omega);rw[hX]at o;obtain⟨p1,p2,p3⟩:=o;have y0:X.cell? ⟨gR,0,none⟩=some (.slice a1 a2 a3):=by rw[p1.cell];rfl
   have y1:X.cell? ⟨gR,1,none⟩=some (.slice a4 a5 a6):=by rw[p1.cell];rfl
   have L1:Hid (Below w.heap.size w X):=Za (by
    rw[g8.out]
    have h1:Below gR W0 X:=by
     rw[<- hX];exact(((hK.to_below (B:=gR) (λk hk=>by omega) (by omega)).setCell (p:=⟨gR,0,none⟩) (Qb _) _).setCell (p:=⟨gR,1,none⟩) (Qb _) _)
    exact p6.out.trans h1)
   replace p2:=Za p2;replace p3:=Za p3;clear p1 j9 f6;go_wp2_with fail;(try rw[hX]);refine bodyPost_ret (v:=.agg #[.slice a1 a2 a3,.slice a4 a5 a6]) (by simp[results,Tryz.results127,go_sem,y0,y1]) rfl ?_;have I3:w.heap.size<=W0.heap.size:=by rw[g8.out];omega
   refine⟨_,_,L,rfl,L1.out,p2.out.mono I3,?_,p3.out.mono I3,x5.out⟩;rw[g9.out];unfold Z8;rw[List.take_of_length_le (by rw[hl.out];exact Qb _)]
  | succ j =>
   obtain rfl:j=n-(i+1):=by omega
   have c0:i<n:=by omega
   have t1:decide ((i:Int)<(n:Int))=true:=Gv (by omega);have bi:(i:Int)<(n:Int):=by omega
   have k9:Below w.heap.size w wr:=by rw[g8.out];exact p6.out.trans (hK.to_below (λk hk=>by omega) (by omega))
   obtain⟨ga,oa,A1,n1,c1,rfl,k0,hF⟩:=K5.out.at_ c0;obtain⟨row,T⟩:=Gz (Q[i]?.getD []);have J4:n1=m:=by rw[<- hF.len];exact hm.out i c0
   subst J4;rw[T]at hF;have I9:=hF.cap;unfold maxLen at I9;have t9:Hid (row.length=n1):=Za hF.len;have f7:Hid (∀ k,k<=n1->denTo row k<pw 1000):=Za (λk hk=>by rw[<- T];exact r8.out i k c0 hk);have C6:Hid (∀ t:Nat,(row[t]?.getD 0).num.natAbs<pw 1000):=Za (λt=>by rw[<- T];exact r6.out i t);have k1:=Zb k9 k0;replace hF:=Za hF;replace T:=Za T;replace f6:=Za f6;replace e7:=Za e7;replace e6:=Za e6;have F6:Hid (∀ s ∈ L,s.g<wr.heap.size):=Za (λs hs=>(e7.out.2.1 s hs).1.1.lt)
   have G5:Hid (∀ k,v2.ownBlock=some k->k<wr.heap.size):=Za (λk hk=>by
    obtain⟨es,h1,-,-⟩:=e6.out;rcases h1 with ⟨rfl,-⟩|⟨g',sp,rfl,-,-,h4⟩;cases hk
    ·have:g'=k:=by simpa [Value.ownBlock]using hk
     rw[<- this];exact h4.lt)
   clear j9 k0;go_wp2_with fail;refine(Zbf 1 wr (by decide) (by decide)).mono ?_;rintro e w1 ⟨r5,d0,D0,e0,f0,rfl,hN⟩;obtain⟨gd,p8⟩:=Gz w1.heap.size;obtain⟨V,hV,u5,qd,kW,kB,sV⟩:=Zr 39 #[.bool d0,.slice D0 e0 f0] r5 r5.size;have L3:Hid (Wd V d0 D0 e0 f0 ((denTo row 0:Nat):Int)):=Za (kW _ _ _ _ _ hN);rw[p8]at qd
   have w7:Hid (g3<gd/\W0.heap.size<=gd):=Za (by
    have h1:=f6.out.lt;have h2:=r5.size;have h3:=hK.size;omega)
   have w4:Hid (Below w.heap.size w V):=Za (k9.trans (u5.mono k9.size));have J0:Hid (gd<V.heap.size):=Za qd.lt;have l1:wr.heap.size<=gd:=by rw[<- p8];exact r5.size
   have K2:Hid (∀ wx,Below gd V wx->MatOZ 150 39 wx W0.heap.size v1 L/\OwnP 39 wx W0.heap.size v2 ((QA i).map λi=>((denAt Q i:Nat):Int))/\Blk wx g3 152 #[v1,v2]/\Kept (λk=>k=g3) W0 wx):=Za (λwx hx=>by
    have hb:Below wr.heap.size wr wx:=u5.trans (hx.mono l1);have K9:Kept (λk=>k=g3) W0 V:=hK.below u5;exact⟨e7.out.kept hb,e6.out.kept hb,f6.out.below hb f6.out.lt,K9.and (Kept.of_belowGe hx) (λk hk h=>by have:=hK.size;omega)⟩)
   have F3:Hid (∀ s ∈ L,s.g<gd):=Za (λs hs=>Qf (F6.out s hs) l1);have G7:Hid (∀ k,v2.ownBlock=some k->k<gd):=Za (λk hk=>Qf (G5.out k hk) l1);have G6:=Za qd;replace p8:=Za p8;clear f6 e7 e6 hK k9 hN qd kW kB sV u5 r5 k1 F6 G5 l1;go_wp2_with fail;(try rw[p8.out]);(try rw[hV]);clear hV;have w5:Hid (w.heap.size<=gd):=Za (by have h1:=w7.out;rw[g8.out];omega);have J7:Hid (∀ k,k=gd->∃ t cs,Blk V k t cs/\NoLimb cs):=Za (λk hk=>⟨_,_,(hk▸G6.out:Blk V k 39 #[.bool d0,.slice D0 e0 f0]),Zgi _ _ _ _⟩)
   go_loopg [23] n1 (λk iv wr=>∃ (t:Nat) (dn:Bool) (dA:Option Addr) (dk dc:Nat),t+k=n1/\iv=.int .i64 t/\Blk wr gd 39 #[.bool dn,.slice dA dk dc]/\Wd wr dn dA dk dc ((denTo row t:Nat):Int)/\Kept (λk=>k=gd) V wr)
   case atStart=>exact⟨0,d0,D0,e0,f0,by omega,rfl,G6.out,L3.out,Qn _ _⟩
   case round =>
    obtain⟨t,dn,dA,dk,dc,M6,rfl,c9,e8,s9⟩:=hrel;have g5:Below w.heap.size w wr:=w4.out.trans (s9.to_below (λk hk=>by rw[hk];exact w5.out) (w4.out.size));cases gk with
    | zero =>
     obtain rfl:t=n1:=by omega
     have t2:decide ((t:Int)<(t:Int))=false:=by simp
     have l5:Hid (denTo row t=denAt Q i):=Za (by unfold denAt;rw[T.out,t9.out]);have x0:Below gd V wr:=s9.to_below (λk hk=>by omega) (QG J0.out);obtain⟨gO,t8⟩:=Gz wr.heap.size;obtain⟨Wo,v5⟩:=Gz (wr.alloc (.cells (Zbt (Qj t Zco)) 39));have K6:=makeW (P:=Tryz.prog) 150 39 Tryz.underlying150 hi h7 j1 i3 (t:Int) t rfl (by omega);have q4:Below wr.heap.size wr Wo:=by rw[<- v5];exact(Qe _ _).alloc (Qb _) _
     have hO:POwn 39 Wo gO (Qj t 0):=by rw[<- v5,<- t8];exact POwn.new _ _ _
     have w9:Hid (Blk Wo gd 39 #[.bool dn,.slice dA dk dc]):=Za (c9.below q4 c9.lt);have F5:Hid (Wd Wo dn dA dk dc ((denTo row t:Nat):Int)):=Za (e8.below q4);have G1:Hid (Below gd V Wo):=Za (x0.trans (q4.mono (QG c9.lt)));have x2:Hid (Below w.heap.size w Wo):=Za (g5.trans (q4.mono g5.size));have G8:Hid (gd<gO):=Za (by rw[<- t8];exact c9.lt);replace hO:=Za hO;clear c9 e8 s9 g5 x0 q4;go_wp2_with fail;(try rw[t8]);(try rw[v5]);clear v5 K6;replace t8:=Za t8;have E4:Hid (∀ k,k=gO->∃ t cs,Blk Wo k t cs/\NoLimb cs):=Za (λk hk=>by rw[hk];exact hO.out.box)
     go_loopg [46] t (λk iv wr=>∃ (x:Nat) (q3:List Int),x+k=t/\iv=.int .i64 x/\POwn 39 wr gO q3/\Hid (q3.length=t)/\Hid (∀ y:Nat,q3[y]?.getD 0=if y<x then (row[y]?.getD 0).num*((denTo row t/(row[y]?.getD 0).den:Nat):Int)else 0)/\Kept (λk=>k=gO) Wo wr)
     case atStart=>exact⟨0,Qj t 0,by omega,rfl,hO.out,Za (by simp),Za (λy=>by rw[Gw (QL y),List.getElem?_replicate];split <;> rfl),Qn _ _⟩
     case round =>
      obtain⟨x,q3,N3,rfl,u2,c6,H1,j6⟩:=hrel;have K8:=G8.out;have n7:Below gd V wr:=G1.out.trans (j6.to_below (λk hk=>by omega) (QG w9.out.lt));have c9:=j6.blk w9.out (by omega);have e8:=j6.wd F5.out E4.out;have g5:Below w.heap.size w wr:=x2.out.trans (j6.to_below (λk hk=>by have:=w5.out;omega) x2.out.size);cases gk with
      | zero =>
       obtain rfl:x=t:=by omega
       have t3:decide ((x:Int)<(x:Int))=false:=by simp
       obtain⟨mM,mP,m3,mK⟩:=K2.out wr n7
       have e4:Hid (q3=Zd2 row):=Za (by
        apply Qz;intro y;have h1:=H1.out y;by_cases hy:y<x
        ·rw[Gx hy]at h1
         rw[Qc (by rw[c6.out];exact hy)]at h1 ⊢;unfold Zd2;have G3:y<row.length:=by rw[t9.out];exact hy
         rw[QI,Qc G3];simp only[Ql,Option.map_some]at h1 ⊢;rw[h1,Qc G3,t9.out];rfl
        ·rw[QE (by rw[c6.out];omega),QE (by rw[Zkb,t9.out];omega)])
       have z3:EnvW 150 39 152 wr g3 gd gO W0.heap.size v1 v2 L ((QA i).map λi=>((denAt Q i:Nat):Int)) dn dA dk dc ((denTo row x:Nat):Int) q3:=
        ⟨mM,⟨u2,by rw[c6.out];unfold maxLen;omega⟩,mP,c9,e8,m3,⟨by omega,by have:=w7.out;omega⟩,λs hs e=>by have:=F3.out s hs;omega,λe=>by have:=G7.out _ e;omega,x5.out⟩
       have N4:L.length=i:=by
        have h1:(L.map RZ.q).length=((Q.take i).map Zd2).length:=by rw[g9.out]
        rw[Qi,Qi,List.length_take,hl.out]at h1;omega
       have d5:(L.map RZ.rs).length+1<=1000:=by rw[Qi];omega
       have d4:((QA i).map λi=>((denAt Q i:Nat):Int)).length+1<=1000:=by rw[Qi,List.length_range];omega
       have e5:(150:TypeId)≠152:=by decide
       replace z3:=Za z3;replace mK:=Za mK;replace c6:=Za c6.out;clear mM mP m3 u2 c9 e8 n7 g5 j6;go_wp2_with fail;obtain⟨X0,u4⟩:=Gz wr.drew;have o6:Below wr.heap.size wr X0:=by rw[<- u4];exact Zf (Qe _ _) 1
       have hE:=z3.out.below o6;have B7:Kept (λk=>k=g3) W0 X0:=mK.out.below o6;have y2:wr.drew.cell? ⟨g3,0,none⟩=some v1/\wr.drew.cell? ⟨g3,1,none⟩=some v2:=by rw[u4];exact hE.cells
       refine Z7 [11,13] (λwx=>wx.cell? ⟨g3,0,none⟩=some v1/\wx.cell? ⟨g3,1,none⟩=some v2) hmx y2 (λhxs9=>?_);refine Zjw 5 [0,1,2,5,6] rfl (by kernel_rfl) y2 ?_
       iterate 5 (refine tkA ?_;try simp only[Qa,Zg4,Zgk,Zgx,Gr,Gq,Gp])
       refine tk0 ?_;rw[u4];clear y2 hxs9 o6 u4;have l8:=hE.1.1;have l7:=hE.2.2.1;have U:=hE.2.2.2.2.2.2.1.1;have G0:=hE;clear G0;refine Zfb (i:=3) (j:=7) rfl rfl (by kernel_rfl) (λK hK=>?_) (λK hK=>?_)
       ·obtain⟨Y1,u9⟩:∃ Y,X0.alloc (.cells #[.slice (some ⟨gO,0,none⟩) x x] 150)=Y:=⟨_,rfl⟩
        obtain⟨u6,r4⟩:=Gz X0.heap.size;have w8:Below X0.heap.size X0 Y1:=by rw[<- u9];exact(Qe _ _).alloc (Qb _) _
        have s6:Blk Y1 u6 150 #[.slice (some ⟨gO,0,none⟩) x x]:=by rw[<- u9,<- r4];exact Qv _ _ _
        have b8:=hE.below w8;have g6:=B7.below w8;go_simp;(try rw[u9]);(try rw[r4]);refine hK.out _ _ (λ_=>b8.cells) ?_;clear hK K u9 r4
        try simp only[Qa,Zg4,Zgk,Zgx]
        refine Zfb (i:=4) (j:=7) rfl rfl (by kernel_rfl) (λK hK=>?_) (λK hK=>?_)
        ·rw[Gx (by rfl)]
         refine Za0 _ (.tmp 63) (.tmp 65) 149 rfl W0.heap.size 150 iS Tryz.underlying149 ki m4 m5 l4 v1 (L.map RZ.rs) rfl b8.1.1 _ (some ⟨u6,0,none⟩) 1 1 [⟨some ⟨gO,0,none⟩,x,x⟩] rfl (Zeg s6) rfl d5 g6.size ?_;intro N2 Y4 F2 x1 H9;have g4:=b8.app b9 e5 (by simp only[RZ.rs,c6.out];exact F2) x1 H9;have G2:=g6.grownG x1 (λk hk=>b8.1.1.row_ge k hk);refine hK.out _ _ (λ_=>g4.cells) ?_;clear hK K
         try simp only[Qa,Zg4,Zgk,Zgx]
         refine Zgl 1 [10] rfl (by kernel_rfl) g4.cells ?_
         (refine tkA ?_;try simp only[Qa,Zg4,Zgk,Zgx,Gr,Gq,Gp])
         refine tk0 ?_;refine wpAnyL_o 7 λK hK=>?_;obtain⟨L0,J8,-,-⟩:=Blk.two (g4.2.2.1);go_simp;refine hK.out _ _ (λ_=>g4.cells) ?_;clear hK K L0 J8
         try simp only[Qa,Zg4,Zgk,Zgx]
         refine wpAnyL_o 8 λK hK=>?_;obtain⟨Y6,v0⟩:=Gz (Y4.alloc (.cells #[.bool dn,.slice dA dk dc] 39));obtain⟨E8,t5⟩:=Gz Y4.heap.size;have w3:Below Y4.heap.size Y4 Y6:=by rw[<- v0];exact(Qe _ _).alloc (Qb _) _
         have H8:Blk Y6 E8 39 #[.bool dn,.slice dA dk dc]:=by rw[<- v0,<- t5];exact Qv _ _ _
         have d7:=g4.below w3;have x4:=G2.below w3;go_simp;(try rw[v0]);(try rw[t5]);refine hK.out _ _ (λ_=>d7.cells) ?_;clear hK K v0 t5
         try simp only[Qa,Zg4,Zgk,Zgx]
         refine wpAnyL_o 9 λK hK=>?_;rw[Gx (by rfl)];refine Zcm _ (.tmp 68) (.tmp 70) 150 rfl W0.heap.size 39 iW Tryz.underlying150 hi h7 j1 i3 v2 _ rfl d7.2.1 _ (some ⟨E8,0,none⟩) 1 1 [⟨dn,dA,dk,dc,digits ((denTo row x:Nat):Int).natAbs⟩] rfl (Zea _ H8) rfl (by intro e he;rw[Qg]at he;subst he;exact⟨d7.2.2.2.1.2.2,d7.2.2.2.1.ok⟩) d4 x4.size ?_;intro N7 Y9 I6 w6 G9 H3;obtain⟨f1,f2,f3,f4⟩:=d7.app b9 (OwnP.snoc I6 d7.2.2.2.1) w6 G9 H3;have F7:=x4.grownG w6 (λk hk=>d7.2.1.row_ge k hk);refine hK.out _ _ (λ_=>⟨by rw[f3.cell];rfl,by rw[f3.cell];rfl⟩) ?_;clear hK K
         try simp only[Qa,Zg4,Zgk,Zgx]
         obtain⟨a1,a2,a3,rfl⟩:=l8.isSlice;obtain⟨a4,a5,a6,rfl⟩:=l7.isSlice;obtain⟨a7,a8,a9,rfl⟩:=f1.1.isSlice;obtain⟨b1,b2,b3,rfl⟩:=f2.isSlice;have o:=Ze7 (x:=.slice a7 a8 a9) (y:=.slice b1 b2 b3) f3 (λk=>by simp) (λk=>by simp) (λk=>by simp) f1 U f2 U;have I:Kept (λk=>k=g3) W0 ((Y9.setCell ⟨g3,0,none⟩ (.slice a7 a8 a9)).setCell ⟨g3,1,none⟩ (.slice b1 b2 b3)):=(F7.set_ (p:=⟨g3,0,none⟩) (.inl rfl) _).set_ (p:=⟨g3,1,none⟩) (.inl rfl) _;have f5:Blk (Y9.setCell ⟨g3,0,none⟩ (.slice a7 a8 a9)) g3 152 #[.slice a7 a8 a9,.slice a4 a5 a6]:=f3.set_ 0 _;have u0:Y9.cell? ⟨g3,0,none⟩=some (.slice a1 a2 a3):=by rw[f3.cell];rfl
         have c8:=f3.frozen 0;have u1:(Y9.setCell ⟨g3,0,none⟩ (.slice a7 a8 a9)).cell? ⟨g3,1,none⟩=some (.slice a4 a5 a6):=by rw[f5.cell];rfl
         have d3:=f5.frozen 1;obtain⟨Z9,C⟩:∃ Z,((Y9.setCell ⟨g3,0,none⟩ (.slice a7 a8 a9)).setCell ⟨g3,1,none⟩ (.slice b1 b2 b3))=Z:=⟨_,rfl⟩;rw[C]at o I;replace o:=Za o;replace I:=Za I;clear f1 f2 f3;refine Zm (i:=11) rfl (by kernel_rfl) (by kernel_rfl) (λK hK=>?_);go_simp;refine hK.out _ _ ?_;clear hK K
         try simp only[Qa,Zg4,Zgk,Zgx]
         refine Zi (i:=12) (v:=?v7) rfl (by kernel_rfl) (by kernel_rfl) (by kernel_rfl) (by kernel_rfl) (Qu ⟨by kernel_rfl,?hy7⟩) (λhno=>absurd hno (by decide)) ?rest7
         case hy7=>(intro W2 _;go_simp;try with_reducible rfl)
         try simp only[Qa,Zg4,Zgk,Zgx,Gr,Gq,Gp]
         refine Zm (i:=13) rfl (by kernel_rfl) (by kernel_rfl) (λK hK=>?_);go_simp;(try rw[C]);refine hK.out _ _ ?_;clear hK K
         try simp only[Qa,Zg4,Zgk,Zgx]
         refine wpAnyL_fin ?_;clear C u0 c8 u1 d3 f5;go_wp2_with fail
         go_roundg (n-(i+1))
         case measure=>omega
         case rel =>
          refine⟨i+1,_,_,L ++ [⟨gO,q3⟩],by omega,by go_num,o.out.1,o.out.2.1,Za ?_,?_,Za f4,I.out⟩
          ·rw[Qd,g9.out,Qm,Qd,Qc (by rw[hl.out];exact c0)]
           congr 1;have h1:=T.out;rw[Qc (by rw[hl.out];exact c0)]at h1;simp only[Ql]at h1;simp[e4.out,h1]
          ·rw[Qp,Qd]
           have h1:=o.out.2.2;rw[l5.out]at h1;exact h1
        ·obtain⟨F9,I7,-,-⟩:=Blk.two (b8.2.2.2.1)
         go_simp;refine hK.out _ _ (λ_=>b8.cells) ?_;clear hK K F9 I7
         try simp only[Qa,Zg4,Zgk,Zgx]
         refine Zfb (i:=4) (j:=8) rfl rfl (by kernel_rfl) (λK hK=>?_) (λK hK=>?_)
         ·rw[Gx (by rfl)]
          refine Za0 _ (.tmp 63) (.tmp 65) 149 rfl W0.heap.size 150 iS Tryz.underlying149 ki m4 m5 l4 v1 (L.map RZ.rs) rfl b8.1.1 _ (some ⟨u6,0,none⟩) 1 1 [⟨some ⟨gO,0,none⟩,x,x⟩] rfl (Zeg s6) rfl d5 g6.size ?_;intro L5 u7 y5 n8 B3;have j3:=b8.app b9 e5 (by simp only[RZ.rs,c6.out];exact y5) n8 B3;have D4:=g6.grownG n8 (λk hk=>b8.1.1.row_ge k hk);refine hK.out _ _ (λ_=>j3.cells) ?_;clear hK K
          try simp only[Qa,Zg4,Zgk,Zgx]
          refine Zgl 1 [10] rfl (by kernel_rfl) j3.cells ?_
          (refine tkA ?_;try simp only[Qa,Zg4,Zgk,Zgx,Gr,Gq,Gp])
          refine tk0 ?_;refine wpAnyL_o 8 λK hK=>?_;obtain⟨I1,l2⟩:=Gz (u7.alloc (.cells #[.bool dn,.slice dA dk dc] 39));obtain⟨x3,h0⟩:=Gz u7.heap.size;have n9:Below u7.heap.size u7 I1:=by rw[<- l2];exact(Qe _ _).alloc (Qb _) _
          have D5:Blk I1 x3 39 #[.bool dn,.slice dA dk dc]:=by rw[<- l2,<- h0];exact Qv _ _ _
          have c7:=j3.below n9;have t6:=D4.below n9;go_simp;(try rw[l2]);(try rw[h0]);refine hK.out _ _ (λ_=>c7.cells) ?_;clear hK K l2 h0
          try simp only[Qa,Zg4,Zgk,Zgx]
          refine wpAnyL_o 9 λK hK=>?_;rw[Gx (by rfl)];refine Zcm _ (.tmp 68) (.tmp 70) 150 rfl W0.heap.size 39 iW Tryz.underlying150 hi h7 j1 i3 v2 _ rfl c7.2.1 _ (some ⟨x3,0,none⟩) 1 1 [⟨dn,dA,dk,dc,digits ((denTo row x:Nat):Int).natAbs⟩] rfl (Zea _ D5) rfl (by intro e he;rw[Qg]at he;subst he;exact⟨c7.2.2.2.1.2.2,c7.2.2.2.1.ok⟩) d4 t6.size ?_;intro M1 n0 A0 t4 x8 C8;obtain⟨f1,f2,f3,f4⟩:=c7.app b9 (OwnP.snoc A0 c7.2.2.2.1) t4 x8 C8;have B8:=t6.grownG t4 (λk hk=>c7.2.1.row_ge k hk);refine hK.out _ _ (λ_=>⟨by rw[f3.cell];rfl,by rw[f3.cell];rfl⟩) ?_;clear hK K
          try simp only[Qa,Zg4,Zgk,Zgx]
          obtain⟨a1,a2,a3,rfl⟩:=l8.isSlice;obtain⟨a4,a5,a6,rfl⟩:=l7.isSlice;obtain⟨a7,a8,a9,rfl⟩:=f1.1.isSlice;obtain⟨b1,b2,b3,rfl⟩:=f2.isSlice;have o:=Ze7 (x:=.slice a7 a8 a9) (y:=.slice b1 b2 b3) f3 (λk=>by simp) (λk=>by simp) (λk=>by simp) f1 U f2 U;have I:Kept (λk=>k=g3) W0 ((n0.setCell ⟨g3,0,none⟩ (.slice a7 a8 a9)).setCell ⟨g3,1,none⟩ (.slice b1 b2 b3)):=(B8.set_ (p:=⟨g3,0,none⟩) (.inl rfl) _).set_ (p:=⟨g3,1,none⟩) (.inl rfl) _;have f5:Blk (n0.setCell ⟨g3,0,none⟩ (.slice a7 a8 a9)) g3 152 #[.slice a7 a8 a9,.slice a4 a5 a6]:=f3.set_ 0 _;have u0:n0.cell? ⟨g3,0,none⟩=some (.slice a1 a2 a3):=by rw[f3.cell];rfl
          have c8:=f3.frozen 0;have u1:(n0.setCell ⟨g3,0,none⟩ (.slice a7 a8 a9)).cell? ⟨g3,1,none⟩=some (.slice a4 a5 a6):=by rw[f5.cell];rfl
          have d3:=f5.frozen 1;obtain⟨Z9,C⟩:∃ Z,((n0.setCell ⟨g3,0,none⟩ (.slice a7 a8 a9)).setCell ⟨g3,1,none⟩ (.slice b1 b2 b3))=Z:=⟨_,rfl⟩;rw[C]at o I;replace o:=Za o;replace I:=Za I;clear f1 f2 f3;refine Zm (i:=11) rfl (by kernel_rfl) (by kernel_rfl) (λK hK=>?_);go_simp;refine hK.out _ _ ?_;clear hK K
          try simp only[Qa,Zg4,Zgk,Zgx]
          refine Zi (i:=12) (v:=?v9) rfl (by kernel_rfl) (by kernel_rfl) (by kernel_rfl) (by kernel_rfl) (Qu ⟨by kernel_rfl,?hy9⟩) (λhno=>absurd hno (by decide)) ?rest9
          case hy9=>(intro W2 _;go_simp;try with_reducible rfl)
          try simp only[Qa,Zg4,Zgk,Zgx,Gr,Gq,Gp]
          refine Zm (i:=13) rfl (by kernel_rfl) (by kernel_rfl) (λK hK=>?_);go_simp;(try rw[C]);refine hK.out _ _ ?_;clear hK K
          try simp only[Qa,Zg4,Zgk,Zgx]
          refine wpAnyL_fin ?_;clear C u0 c8 u1 d3 f5;go_wp2_with fail
          go_roundg (n-(i+1))
          case measure=>omega
          case rel =>
           refine⟨i+1,_,_,L ++ [⟨gO,q3⟩],by omega,by go_num,o.out.1,o.out.2.1,Za ?_,?_,Za f4,I.out⟩
           ·rw[Qd,g9.out,Qm,Qd,Qc (by rw[hl.out];exact c0)]
            congr 1;have h1:=T.out;rw[Qc (by rw[hl.out];exact c0)]at h1;simp only[Ql]at h1;simp[e4.out,h1]
           ·rw[Qp,Qd]
            have h1:=o.out.2.2;rw[l5.out]at h1;exact h1
         ·obtain⟨H6,k6⟩:=Gz (Y1.alloc (.cells #[.bool dn,.slice dA dk dc] 39))
          obtain⟨v8,h9⟩:=Gz Y1.heap.size;have i2:Below Y1.heap.size Y1 H6:=by rw[<- k6];exact(Qe _ _).alloc (Qb _) _
          have A8:Blk H6 v8 39 #[.bool dn,.slice dA dk dc]:=by rw[<- k6,<- h9];exact Qv _ _ _
          have d8:=b8.below i2;have o7:=g6.below i2;have r2:=Zc i2 s6;go_simp;(try rw[k6]);(try rw[h9]);refine hK.out _ _ (λ_=>d8.cells) ?_;clear hK K k6 h9
          try simp only[Qa,Zg4,Zgk,Zgx]
          refine wpAnyL_o 4 λK hK=>?_;rw[Gx (by rfl)];refine Za0 _ (.tmp 63) (.tmp 65) 149 rfl W0.heap.size 150 iS Tryz.underlying149 ki m4 m5 l4 v1 (L.map RZ.rs) rfl d8.1.1 _ (some ⟨u6,0,none⟩) 1 1 [⟨some ⟨gO,0,none⟩,x,x⟩] rfl (Zeg r2) rfl d5 o7.size ?_;intro L8 N5 B1 h6 y7;have a0:=d8.app b9 e5 (by simp only[RZ.rs,c6.out];exact B1) h6 y7;have q5:=o7.grownG h6 (λk hk=>d8.1.1.row_ge k hk);have m9:=d8.far b9 h6 A8;refine hK.out _ _ (λ_=>a0.cells) ?_;clear hK K
          try simp only[Qa,Zg4,Zgk,Zgx]
          refine Zgl 1 [10] rfl (by kernel_rfl) a0.cells ?_
          (refine tkA ?_;try simp only[Qa,Zg4,Zgk,Zgx,Gr,Gq,Gp])
          refine tk0 ?_;refine wpAnyL_o 9 λK hK=>?_;rw[Gx (by rfl)];refine Zcm _ (.tmp 68) (.tmp 70) 150 rfl W0.heap.size 39 iW Tryz.underlying150 hi h7 j1 i3 v2 _ rfl a0.2.1 _ (some ⟨v8,0,none⟩) 1 1 [⟨dn,dA,dk,dc,digits ((denTo row x:Nat):Int).natAbs⟩] rfl (Zea _ m9) rfl (by intro e he;rw[Qg]at he;subst he;exact⟨a0.2.2.2.1.2.2,a0.2.2.2.1.ok⟩) d4 q5.size ?_;intro M0 o4 z6 o3 y3 A4;obtain⟨f1,f2,f3,f4⟩:=a0.app b9 (OwnP.snoc z6 a0.2.2.2.1) o3 y3 A4;have D7:=q5.grownG o3 (λk hk=>a0.2.1.row_ge k hk);refine hK.out _ _ (λ_=>⟨by rw[f3.cell];rfl,by rw[f3.cell];rfl⟩) ?_;clear hK K
          try simp only[Qa,Zg4,Zgk,Zgx]
          obtain⟨a1,a2,a3,rfl⟩:=l8.isSlice;obtain⟨a4,a5,a6,rfl⟩:=l7.isSlice;obtain⟨a7,a8,a9,rfl⟩:=f1.1.isSlice;obtain⟨b1,b2,b3,rfl⟩:=f2.isSlice;have o:=Ze7 (x:=.slice a7 a8 a9) (y:=.slice b1 b2 b3) f3 (λk=>by simp) (λk=>by simp) (λk=>by simp) f1 U f2 U;have I:Kept (λk=>k=g3) W0 ((o4.setCell ⟨g3,0,none⟩ (.slice a7 a8 a9)).setCell ⟨g3,1,none⟩ (.slice b1 b2 b3)):=(D7.set_ (p:=⟨g3,0,none⟩) (.inl rfl) _).set_ (p:=⟨g3,1,none⟩) (.inl rfl) _;have f5:Blk (o4.setCell ⟨g3,0,none⟩ (.slice a7 a8 a9)) g3 152 #[.slice a7 a8 a9,.slice a4 a5 a6]:=f3.set_ 0 _;have u0:o4.cell? ⟨g3,0,none⟩=some (.slice a1 a2 a3):=by rw[f3.cell];rfl
          have c8:=f3.frozen 0;have u1:(o4.setCell ⟨g3,0,none⟩ (.slice a7 a8 a9)).cell? ⟨g3,1,none⟩=some (.slice a4 a5 a6):=by rw[f5.cell];rfl
          have d3:=f5.frozen 1;obtain⟨Z9,C⟩:∃ Z,((o4.setCell ⟨g3,0,none⟩ (.slice a7 a8 a9)).setCell ⟨g3,1,none⟩ (.slice b1 b2 b3))=Z:=⟨_,rfl⟩;rw[C]at o I;replace o:=Za o;replace I:=Za I;clear f1 f2 f3;refine Zm (i:=11) rfl (by kernel_rfl) (by kernel_rfl) (λK hK=>?_);go_simp;refine hK.out _ _ ?_;clear hK K
          try simp only[Qa,Zg4,Zgk,Zgx]
          refine Zi (i:=12) (v:=?v11) rfl (by kernel_rfl) (by kernel_rfl) (by kernel_rfl) (by kernel_rfl) (Qu ⟨by kernel_rfl,?hy11⟩) (λhno=>absurd hno (by decide)) ?rest11
          case hy11=>(intro W2 _;go_simp;try with_reducible rfl)
          try simp only[Qa,Zg4,Zgk,Zgx,Gr,Gq,Gp]
          refine Zm (i:=13) rfl (by kernel_rfl) (by kernel_rfl) (λK hK=>?_);go_simp;(try rw[C]);refine hK.out _ _ ?_;clear hK K
          try simp only[Qa,Zg4,Zgk,Zgx]
          refine wpAnyL_fin ?_;clear C u0 c8 u1 d3 f5;go_wp2_with fail
          go_roundg (n-(i+1))
          case measure=>omega
          case rel =>
           refine⟨i+1,_,_,L ++ [⟨gO,q3⟩],by omega,by go_num,o.out.1,o.out.2.1,Za ?_,?_,Za f4,I.out⟩
           ·rw[Qd,g9.out,Qm,Qd,Qc (by rw[hl.out];exact c0)]
            congr 1;have h1:=T.out;rw[Qc (by rw[hl.out];exact c0)]at h1;simp only[Ql]at h1;simp[e4.out,h1]
           ·rw[Qp,Qd]
            have h1:=o.out.2.2;rw[l5.out]at h1;exact h1
       ·obtain⟨F8,E9,-,-⟩:=Blk.two (hE.2.2.2.1)
        go_simp;refine hK.out _ _ (λ_=>hE.cells) ?_;clear hK K F8 E9
        try simp only[Qa,Zg4,Zgk,Zgx]
        refine Zfb (i:=3) (j:=8) rfl rfl (by kernel_rfl) (λK hK=>?_) (λK hK=>?_)
        ·obtain⟨l9,k2⟩:∃ Y,X0.alloc (.cells #[.slice (some ⟨gO,0,none⟩) x x] 150)=Y:=⟨_,rfl⟩
         obtain⟨t0,i0⟩:=Gz X0.heap.size;have q6:Below X0.heap.size X0 l9:=by rw[<- k2];exact(Qe _ _).alloc (Qb _) _
         have s8:Blk l9 t0 150 #[.slice (some ⟨gO,0,none⟩) x x]:=by rw[<- k2,<- i0];exact Qv _ _ _
         have e2:=hE.below q6;have i8:=B7.below q6;go_simp;(try rw[k2]);(try rw[i0]);refine hK.out _ _ (λ_=>e2.cells) ?_;clear hK K k2 i0
         try simp only[Qa,Zg4,Zgk,Zgx]
         refine Zfb (i:=4) (j:=8) rfl rfl (by kernel_rfl) (λK hK=>?_) (λK hK=>?_)
         ·rw[Gx (by rfl)]
          refine Za0 _ (.tmp 63) (.tmp 65) 149 rfl W0.heap.size 150 iS Tryz.underlying149 ki m4 m5 l4 v1 (L.map RZ.rs) rfl e2.1.1 _ (some ⟨t0,0,none⟩) 1 1 [⟨some ⟨gO,0,none⟩,x,x⟩] rfl (Zeg s8) rfl d5 i8.size ?_;intro L4 v3 C4 n6 B4;have i7:=e2.app b9 e5 (by simp only[RZ.rs,c6.out];exact C4) n6 B4;have C3:=i8.grownG n6 (λk hk=>e2.1.1.row_ge k hk);refine hK.out _ _ (λ_=>i7.cells) ?_;clear hK K
          try simp only[Qa,Zg4,Zgk,Zgx]
          refine Zgl 1 [10] rfl (by kernel_rfl) i7.cells ?_
          (refine tkA ?_;try simp only[Qa,Zg4,Zgk,Zgx,Gr,Gq,Gp])
          refine tk0 ?_;refine wpAnyL_o 8 λK hK=>?_;obtain⟨E6,k8⟩:=Gz (v3.alloc (.cells #[.bool dn,.slice dA dk dc] 39));obtain⟨x6,j8⟩:=Gz v3.heap.size;have p5:Below v3.heap.size v3 E6:=by rw[<- k8];exact(Qe _ _).alloc (Qb _) _
          have B6:Blk E6 x6 39 #[.bool dn,.slice dA dk dc]:=by rw[<- k8,<- j8];exact Qv _ _ _
          have c4:=i7.below p5;have p7:=C3.below p5;go_simp;(try rw[k8]);(try rw[j8]);refine hK.out _ _ (λ_=>c4.cells) ?_;clear hK K k8 j8
          try simp only[Qa,Zg4,Zgk,Zgx]
          refine wpAnyL_o 9 λK hK=>?_;rw[Gx (by rfl)];refine Zcm _ (.tmp 68) (.tmp 70) 150 rfl W0.heap.size 39 iW Tryz.underlying150 hi h7 j1 i3 v2 _ rfl c4.2.1 _ (some ⟨x6,0,none⟩) 1 1 [⟨dn,dA,dk,dc,digits ((denTo row x:Nat):Int).natAbs⟩] rfl (Zea _ B6) rfl (by intro e he;rw[Qg]at he;subst he;exact⟨c4.2.2.2.1.2.2,c4.2.2.2.1.ok⟩) d4 p7.size ?_;intro L7 s7 y4 q7 x9 C5;obtain⟨f1,f2,f3,f4⟩:=c4.app b9 (OwnP.snoc y4 c4.2.2.2.1) q7 x9 C5;have z7:=p7.grownG q7 (λk hk=>c4.2.1.row_ge k hk);refine hK.out _ _ (λ_=>⟨by rw[f3.cell];rfl,by rw[f3.cell];rfl⟩) ?_;clear hK K
          try simp only[Qa,Zg4,Zgk,Zgx]
          obtain⟨a1,a2,a3,rfl⟩:=l8.isSlice;obtain⟨a4,a5,a6,rfl⟩:=l7.isSlice;obtain⟨a7,a8,a9,rfl⟩:=f1.1.isSlice;obtain⟨b1,b2,b3,rfl⟩:=f2.isSlice;have o:=Ze7 (x:=.slice a7 a8 a9) (y:=.slice b1 b2 b3) f3 (λk=>by simp) (λk=>by simp) (λk=>by simp) f1 U f2 U;have I:Kept (λk=>k=g3) W0 ((s7.setCell ⟨g3,0,none⟩ (.slice a7 a8 a9)).setCell ⟨g3,1,none⟩ (.slice b1 b2 b3)):=(z7.set_ (p:=⟨g3,0,none⟩) (.inl rfl) _).set_ (p:=⟨g3,1,none⟩) (.inl rfl) _;have f5:Blk (s7.setCell ⟨g3,0,none⟩ (.slice a7 a8 a9)) g3 152 #[.slice a7 a8 a9,.slice a4 a5 a6]:=f3.set_ 0 _;have u0:s7.cell? ⟨g3,0,none⟩=some (.slice a1 a2 a3):=by rw[f3.cell];rfl
          have c8:=f3.frozen 0;have u1:(s7.setCell ⟨g3,0,none⟩ (.slice a7 a8 a9)).cell? ⟨g3,1,none⟩=some (.slice a4 a5 a6):=by rw[f5.cell];rfl
          have d3:=f5.frozen 1;obtain⟨Z9,C⟩:∃ Z,((s7.setCell ⟨g3,0,none⟩ (.slice a7 a8 a9)).setCell ⟨g3,1,none⟩ (.slice b1 b2 b3))=Z:=⟨_,rfl⟩;rw[C]at o I;replace o:=Za o;replace I:=Za I;clear f1 f2 f3;refine Zm (i:=11) rfl (by kernel_rfl) (by kernel_rfl) (λK hK=>?_);go_simp;refine hK.out _ _ ?_;clear hK K
          try simp only[Qa,Zg4,Zgk,Zgx]
          refine Zi (i:=12) (v:=?v13) rfl (by kernel_rfl) (by kernel_rfl) (by kernel_rfl) (by kernel_rfl) (Qu ⟨by kernel_rfl,?hy13⟩) (λhno=>absurd hno (by decide)) ?rest13
          case hy13=>(intro W2 _;go_simp;try with_reducible rfl)
          try simp only[Qa,Zg4,Zgk,Zgx,Gr,Gq,Gp]
          refine Zm (i:=13) rfl (by kernel_rfl) (by kernel_rfl) (λK hK=>?_);go_simp;(try rw[C]);refine hK.out _ _ ?_;clear hK K
          try simp only[Qa,Zg4,Zgk,Zgx]
          refine wpAnyL_fin ?_;clear C u0 c8 u1 d3 f5;go_wp2_with fail
          go_roundg (n-(i+1))
          case measure=>omega
          case rel =>
           refine⟨i+1,_,_,L ++ [⟨gO,q3⟩],by omega,by go_num,o.out.1,o.out.2.1,Za ?_,?_,Za f4,I.out⟩
           ·rw[Qd,g9.out,Qm,Qd,Qc (by rw[hl.out];exact c0)]
            congr 1;have h1:=T.out;rw[Qc (by rw[hl.out];exact c0)]at h1;simp only[Ql]at h1;simp[e4.out,h1]
           ·rw[Qp,Qd]
            have h1:=o.out.2.2;rw[l5.out]at h1;exact h1
         ·obtain⟨F1,l0⟩:=Gz (l9.alloc (.cells #[.bool dn,.slice dA dk dc] 39))
          obtain⟨x7,j7⟩:=Gz l9.heap.size;have j2:Below l9.heap.size l9 F1:=by rw[<- l0];exact(Qe _ _).alloc (Qb _) _
          have y6:Blk F1 x7 39 #[.bool dn,.slice dA dk dc]:=by rw[<- l0,<- j7];exact Qv _ _ _
          have e1:=e2.below j2;have o5:=i8.below j2;have m7:=Zc j2 s8;go_simp;(try rw[l0]);(try rw[j7]);refine hK.out _ _ (λ_=>e1.cells) ?_;clear hK K l0 j7
          try simp only[Qa,Zg4,Zgk,Zgx]
          refine wpAnyL_o 4 λK hK=>?_;rw[Gx (by rfl)];refine Za0 _ (.tmp 63) (.tmp 65) 149 rfl W0.heap.size 150 iS Tryz.underlying149 ki m4 m5 l4 v1 (L.map RZ.rs) rfl e1.1.1 _ (some ⟨t0,0,none⟩) 1 1 [⟨some ⟨gO,0,none⟩,x,x⟩] rfl (Zeg m7) rfl d5 o5.size ?_;intro M4 M7 A6 i6 y8;have b4:=e1.app b9 e5 (by simp only[RZ.rs,c6.out];exact A6) i6 y8;have o8:=o5.grownG i6 (λk hk=>e1.1.1.row_ge k hk);have l6:=e1.far b9 i6 y6;refine hK.out _ _ (λ_=>b4.cells) ?_;clear hK K
          try simp only[Qa,Zg4,Zgk,Zgx]
          refine Zgl 1 [10] rfl (by kernel_rfl) b4.cells ?_
          (refine tkA ?_;try simp only[Qa,Zg4,Zgk,Zgx,Gr,Gq,Gp])
          refine tk0 ?_;refine wpAnyL_o 9 λK hK=>?_;rw[Gx (by rfl)];refine Zcm _ (.tmp 68) (.tmp 70) 150 rfl W0.heap.size 39 iW Tryz.underlying150 hi h7 j1 i3 v2 _ rfl b4.2.1 _ (some ⟨x7,0,none⟩) 1 1 [⟨dn,dA,dk,dc,digits ((denTo row x:Nat):Int).natAbs⟩] rfl (Zea _ l6) rfl (by intro e he;rw[Qg]at he;subst he;exact⟨b4.2.2.2.1.2.2,b4.2.2.2.1.ok⟩) d4 o8.size ?_;intro M3 p9 D1 t7 A9 E2;obtain⟨f1,f2,f3,f4⟩:=b4.app b9 (OwnP.snoc D1 b4.2.2.2.1) t7 A9 E2;have D3:=o8.grownG t7 (λk hk=>b4.2.1.row_ge k hk);refine hK.out _ _ (λ_=>⟨by rw[f3.cell];rfl,by rw[f3.cell];rfl⟩) ?_;clear hK K
          try simp only[Qa,Zg4,Zgk,Zgx]
          obtain⟨a1,a2,a3,rfl⟩:=l8.isSlice;obtain⟨a4,a5,a6,rfl⟩:=l7.isSlice;obtain⟨a7,a8,a9,rfl⟩:=f1.1.isSlice;obtain⟨b1,b2,b3,rfl⟩:=f2.isSlice;have o:=Ze7 (x:=.slice a7 a8 a9) (y:=.slice b1 b2 b3) f3 (λk=>by simp) (λk=>by simp) (λk=>by simp) f1 U f2 U;have I:Kept (λk=>k=g3) W0 ((p9.setCell ⟨g3,0,none⟩ (.slice a7 a8 a9)).setCell ⟨g3,1,none⟩ (.slice b1 b2 b3)):=(D3.set_ (p:=⟨g3,0,none⟩) (.inl rfl) _).set_ (p:=⟨g3,1,none⟩) (.inl rfl) _;have f5:Blk (p9.setCell ⟨g3,0,none⟩ (.slice a7 a8 a9)) g3 152 #[.slice a7 a8 a9,.slice a4 a5 a6]:=f3.set_ 0 _;have u0:p9.cell? ⟨g3,0,none⟩=some (.slice a1 a2 a3):=by rw[f3.cell];rfl
          have c8:=f3.frozen 0;have u1:(p9.setCell ⟨g3,0,none⟩ (.slice a7 a8 a9)).cell? ⟨g3,1,none⟩=some (.slice a4 a5 a6):=by rw[f5.cell];rfl
          have d3:=f5.frozen 1;obtain⟨Z9,C⟩:∃ Z,((p9.setCell ⟨g3,0,none⟩ (.slice a7 a8 a9)).setCell ⟨g3,1,none⟩ (.slice b1 b2 b3))=Z:=⟨_,rfl⟩;rw[C]at o I;replace o:=Za o;replace I:=Za I;clear f1 f2 f3;refine Zm (i:=11) rfl (by kernel_rfl) (by kernel_rfl) (λK hK=>?_);go_simp;refine hK.out _ _ ?_;clear hK K
          try simp only[Qa,Zg4,Zgk,Zgx]
          refine Zi (i:=12) (v:=?v15) rfl (by kernel_rfl) (by kernel_rfl) (by kernel_rfl) (by kernel_rfl) (Qu ⟨by kernel_rfl,?hy15⟩) (λhno=>absurd hno (by decide)) ?rest15
          case hy15=>(intro W2 _;go_simp;try with_reducible rfl)
          try simp only[Qa,Zg4,Zgk,Zgx,Gr,Gq,Gp]
          refine Zm (i:=13) rfl (by kernel_rfl) (by kernel_rfl) (λK hK=>?_);go_simp;(try rw[C]);refine hK.out _ _ ?_;clear hK K
          try simp only[Qa,Zg4,Zgk,Zgx]
          refine wpAnyL_fin ?_;clear C u0 c8 u1 d3 f5;go_wp2_with fail
          go_roundg (n-(i+1))
          case measure=>omega
          case rel =>
           refine⟨i+1,_,_,L ++ [⟨gO,q3⟩],by omega,by go_num,o.out.1,o.out.2.1,Za ?_,?_,Za f4,I.out⟩
           ·rw[Qd,g9.out,Qm,Qd,Qc (by rw[hl.out];exact c0)]
            congr 1;have h1:=T.out;rw[Qc (by rw[hl.out];exact c0)]at h1;simp only[Ql]at h1;simp[e4.out,h1]
           ·rw[Qp,Qd]
            have h1:=o.out.2.2;rw[l5.out]at h1;exact h1
        ·obtain⟨l3,k4⟩:=Gz (X0.alloc (.cells #[.bool dn,.slice dA dk dc] 39))
         obtain⟨w0,i1⟩:=Gz X0.heap.size;have q8:Below X0.heap.size X0 l3:=by rw[<- k4];exact(Qe _ _).alloc (Qb _) _
         have z5:Blk l3 w0 39 #[.bool dn,.slice dA dk dc]:=by rw[<- k4,<- i1];exact Qv _ _ _
         have s5:=hE.below q8;have D6:=B7.below q8;go_simp;(try rw[k4]);(try rw[i1]);refine hK.out _ _ (λ_=>s5.cells) ?_;clear hK K k4 i1
         try simp only[Qa,Zg4,Zgk,Zgx]
         refine wpAnyL_o 3 λK hK=>?_;obtain⟨I0,k7⟩:∃ Y,l3.alloc (.cells #[.slice (some ⟨gO,0,none⟩) x x] 150)=Y:=⟨_,rfl⟩;obtain⟨v6,h8⟩:=Gz l3.heap.size;have j0:Below l3.heap.size l3 I0:=by rw[<- k7];exact(Qe _ _).alloc (Qb _) _
         have A7:Blk I0 v6 150 #[.slice (some ⟨gO,0,none⟩) x x]:=by rw[<- k7,<- h8];exact Qv _ _ _
         have d9:=s5.below j0;have o0:=D6.below j0;have m1:=Zc j0 z5;go_simp;(try rw[k7]);(try rw[h8]);refine hK.out _ _ (λ_=>d9.cells) ?_;clear hK K k7 h8
         try simp only[Qa,Zg4,Zgk,Zgx]
         refine wpAnyL_o 4 λK hK=>?_;rw[Gx (by rfl)];refine Za0 _ (.tmp 63) (.tmp 65) 149 rfl W0.heap.size 150 iS Tryz.underlying149 ki m4 m5 l4 v1 (L.map RZ.rs) rfl d9.1.1 _ (some ⟨v6,0,none⟩) 1 1 [⟨some ⟨gO,0,none⟩,x,x⟩] rfl (Zeg A7) rfl d5 o0.size ?_;intro L9 N6 E1 i4 B9;have b6:=d9.app b9 e5 (by simp only[RZ.rs,c6.out];exact E1) i4 B9;have r3:=o0.grownG i4 (λk hk=>d9.1.1.row_ge k hk);have e9:=d9.far b9 i4 m1;refine hK.out _ _ (λ_=>b6.cells) ?_;clear hK K
         try simp only[Qa,Zg4,Zgk,Zgx]
         refine Zgl 1 [10] rfl (by kernel_rfl) b6.cells ?_
         (refine tkA ?_;try simp only[Qa,Zg4,Zgk,Zgx,Gr,Gq,Gp])
         refine tk0 ?_;refine wpAnyL_o 9 λK hK=>?_;rw[Gx (by rfl)];refine Zcm _ (.tmp 68) (.tmp 70) 150 rfl W0.heap.size 39 iW Tryz.underlying150 hi h7 j1 i3 v2 _ rfl b6.2.1 _ (some ⟨w0,0,none⟩) 1 1 [⟨dn,dA,dk,dc,digits ((denTo row x:Nat):Int).natAbs⟩] rfl (Zea _ e9) rfl (by intro e he;rw[Qg]at he;subst he;exact⟨b6.2.2.2.1.2.2,b6.2.2.2.1.ok⟩) d4 r3.size ?_;intro M5 q2 C2 r7 C9 C1;obtain⟨f1,f2,f3,f4⟩:=b6.app b9 (OwnP.snoc C2 b6.2.2.2.1) r7 C9 C1;have D2:=r3.grownG r7 (λk hk=>b6.2.1.row_ge k hk);refine hK.out _ _ (λ_=>⟨by rw[f3.cell];rfl,by rw[f3.cell];rfl⟩) ?_;clear hK K
         try simp only[Qa,Zg4,Zgk,Zgx]
         obtain⟨a1,a2,a3,rfl⟩:=l8.isSlice;obtain⟨a4,a5,a6,rfl⟩:=l7.isSlice;obtain⟨a7,a8,a9,rfl⟩:=f1.1.isSlice;obtain⟨b1,b2,b3,rfl⟩:=f2.isSlice;have o:=Ze7 (x:=.slice a7 a8 a9) (y:=.slice b1 b2 b3) f3 (λk=>by simp) (λk=>by simp) (λk=>by simp) f1 U f2 U;have I:Kept (λk=>k=g3) W0 ((q2.setCell ⟨g3,0,none⟩ (.slice a7 a8 a9)).setCell ⟨g3,1,none⟩ (.slice b1 b2 b3)):=(D2.set_ (p:=⟨g3,0,none⟩) (.inl rfl) _).set_ (p:=⟨g3,1,none⟩) (.inl rfl) _;have f5:Blk (q2.setCell ⟨g3,0,none⟩ (.slice a7 a8 a9)) g3 152 #[.slice a7 a8 a9,.slice a4 a5 a6]:=f3.set_ 0 _;have u0:q2.cell? ⟨g3,0,none⟩=some (.slice a1 a2 a3):=by rw[f3.cell];rfl
         have c8:=f3.frozen 0;have u1:(q2.setCell ⟨g3,0,none⟩ (.slice a7 a8 a9)).cell? ⟨g3,1,none⟩=some (.slice a4 a5 a6):=by rw[f5.cell];rfl
         have d3:=f5.frozen 1;obtain⟨Z9,C⟩:∃ Z,((q2.setCell ⟨g3,0,none⟩ (.slice a7 a8 a9)).setCell ⟨g3,1,none⟩ (.slice b1 b2 b3))=Z:=⟨_,rfl⟩;rw[C]at o I;replace o:=Za o;replace I:=Za I;clear f1 f2 f3;refine Zm (i:=11) rfl (by kernel_rfl) (by kernel_rfl) (λK hK=>?_);go_simp;refine hK.out _ _ ?_;clear hK K
         try simp only[Qa,Zg4,Zgk,Zgx]
         refine Zi (i:=12) (v:=?v17) rfl (by kernel_rfl) (by kernel_rfl) (by kernel_rfl) (by kernel_rfl) (Qu ⟨by kernel_rfl,?hy17⟩) (λhno=>absurd hno (by decide)) ?rest17
         case hy17=>(intro W2 _;go_simp;try with_reducible rfl)
         try simp only[Qa,Zg4,Zgk,Zgx,Gr,Gq,Gp]
         refine Zm (i:=13) rfl (by kernel_rfl) (by kernel_rfl) (λK hK=>?_);go_simp;(try rw[C]);refine hK.out _ _ ?_;clear hK K
         try simp only[Qa,Zg4,Zgk,Zgx]
         refine wpAnyL_fin ?_;clear C u0 c8 u1 d3 f5;go_wp2_with fail
         go_roundg (n-(i+1))
         case measure=>omega
         case rel =>
          refine⟨i+1,_,_,L ++ [⟨gO,q3⟩],by omega,by go_num,o.out.1,o.out.2.1,Za ?_,?_,Za f4,I.out⟩
          ·rw[Qd,g9.out,Qm,Qd,Qc (by rw[hl.out];exact c0)]
           congr 1;have h1:=T.out;rw[Qc (by rw[hl.out];exact c0)]at h1;simp only[Ql]at h1;simp[e4.out,h1]
          ·rw[Qp,Qd]
           have h1:=o.out.2.2;rw[l5.out]at h1;exact h1
      | succ j =>
       obtain rfl:j=t-(x+1):=by omega
       have u3:x<t:=by omega
       have t3:decide ((x:Int)<(t:Int))=true:=Gv (by omega);have bx:(x:Int)<(t:Int):=by omega
       obtain⟨g1,o1,na,A2,n2,c2,nb,B2,m2,d2,rfl,h4,j4⟩:=(hF.out.below g5).at_ u3;obtain⟨p0,p1,p2,p3⟩:=h4;obtain⟨f,hf⟩:∃ X:Rat,row[x]?.getD 0=X:=⟨_,rfl⟩;rw[hf]at j4;have F0:Hid (((f.den:Nat):Int)≠0):=Za (by have:=f.den_pos;omega)
       have z9:Hid ((f.num*QB ((denTo row t:Nat):Int) ((f.den:Nat):Int)).natAbs<pw 4096):=Za (by
        rw[Zj8]
        have h1:((denTo row t/f.den:Nat):Int).natAbs<pw 1000:=by
         rw[Qq];exact Qy (Nat.div_le_self _ _) (f7.out t (Qb t))
        have h2:f.num.natAbs<pw 1000:=by rw[<- hf];exact C6.out x
        exact Qf (Zja h2 h1) (Zb4 (by decide)))
       obtain⟨gf,j5⟩:=Gz wr.heap.size;obtain⟨Vf,p4,e3,qf,kW,kB,sf⟩:=Zr 41 #[.bool na,.slice A2 n2 c2,.bool nb,.slice B2 m2 d2] (Qe wr.heap.size wr) (Qb _);have h5:=j4.below e3;have m0:=e8.below e3;have d6:=c9.below e3 c9.lt;have i5:=u2.below e3;rw[j5]at qf;obtain⟨s0,s1,s2,s3,-⟩:=qf.four;obtain⟨r0,r1,-,-⟩:=d6.two;obtain⟨n5,A5,k5,c5,u0,u1,-⟩:=i5.at_ (i:=x) (by rw[c6.out];exact u3);have c8:=i5.frozen (x*2);have d3:=i5.frozen (x*2+1);have z4:Hid (Kept (λk=>k=gO) Wo Vf):=Za (j6.below e3);replace i5:=Za i5;replace hf:=Za hf;clear j4 e8 c9 kW kB sf j6 qf d6 u2 n7 g5;go_wp2_with fail;(try rw[j5]);(try rw[p4]);clear p4 p0 p1 p2 p3;have O:Hid (∀ wx,Below Vf.heap.size Vf wx->wx.cell? ⟨gf,0,none⟩=some (.bool na)/\wx.cell? ⟨gf,1,none⟩=some (.slice A2 n2 c2)/\wx.cell? ⟨gf,2,none⟩=some (.bool nb)/\wx.cell? ⟨gf,3,none⟩=some (.slice B2 m2 d2)/\wx.cell? ⟨gd,0,none⟩=some (.bool dn)/\wx.cell? ⟨gd,1,none⟩=some (.slice dA dk dc)):=Za (λwx hbx=>⟨Zb hbx s0,Zb hbx s1,Zb hbx s2,Zb hbx s3,Zb hbx r0,Zb hbx r1⟩);have b7:Below Vf.heap.size Vf Vf.drew:=Zf (Qe _ _) 1;refine wp_heldS [10] hmx O b7 (λhxs9=>?_);refine Zgl 2 [0,1] rfl (by kernel_rfl) (O.out _ b7) ?_
       iterate 2 (refine tkA ?_;try simp only[Qa,Zg4,Zgk,Zgx,Gr,Gq,Gp])
       refine tk0 ?_;refine Zjw 5 [2,3,4,5,6] rfl (by kernel_rfl) (O.out _ b7) ?_
       iterate 5 (refine tkA ?_;try simp only[Qa,Zg4,Zgk,Zgx,Gr,Gq,Gp])
       refine tk0 ?_;refine wpAnyL_o 7 λK hK=>?_;go_simp;refine(Zpm dn nb dA B2 dk dc m2 d2 _ _ Vf.drew (m0.below b7) (h5.2.below b7) F0.out).mono ?_;rintro e D8 ⟨f8,B5,z8,E0,E3,rfl,f9⟩;have b5:=b7.trans (f8.mono b7.size);refine hK.out _ _ (λ_=>O.out _ b5) ?_;clear hK K
       try simp only[Qa,Zg4,Zgk,Zgx]
       refine wpAnyL_o 8 λK hK=>?_;go_simp;refine(Zfo na B5 A2 z8 n2 c2 E0 E3 _ _ D8 (h5.1.below b5) f9 z9.out).mono ?_;rintro e y9 ⟨g2,o2,s4,o9,n4,rfl,g7⟩;have J:=b5.trans (g2.mono b5.size);refine hK.out _ _ (λ_=>O.out _ J) ?_;clear hK K
       try simp only[Qa,Zg4,Zgk,Zgx]
       refine Zgl 1 [9] rfl (by kernel_rfl) (O.out _ J) ?_
       (refine tkA ?_;try simp only[Qa,Zg4,Zgk,Zgx,Gr,Gq,Gp])
       refine tk0 ?_;have I4:=i5.out.below J;obtain⟨Z9,C⟩:∃ W,(y9.setCell ⟨gO,x*2,none⟩ (.bool o2)).setCell ⟨gO,x*2+1,none⟩ (.slice s4 o9 n4)=W:=⟨_,rfl⟩;have C0:Hid (Kept (λk=>k=gO) Wo Z9):=Za (by rw[<- C];exact((z4.out.below J).set_ (p:=⟨gO,x*2,none⟩) (.inl rfl) _).set_ (p:=⟨gO,x*2+1,none⟩) (.inl rfl) _);have K1:Hid (POwn 39 Z9 gO (q3.set x (f.num*QB ((denTo row t:Nat):Int) ((f.den:Nat):Int)))):=Za (by rw[<- C];exact I4.set_ (by rw[c6.out];exact u3) g7);have g0:=Zb J u0;have K3:=Zb J u1;have f0:=Zn J u0 c8;have f1:=Zn J u1 d3;clear I4;refine Zm (i:=10) rfl (by kernel_rfl) (by kernel_rfl) (λK hK=>?_);go_simp;(try rw[C]);refine hK.out _ _ ?_;clear hK K
       try simp only[Qa,Zg4,Zgk,Zgx]
       refine wpAnyL_fin ?_;clear C f0 f1 g0 K3 f8 g2 b7 b5 J O hxs9 r0 r1 s0 s1 s2 s3 f9 g7 m0 h5 i5 u0 u1 c8 d3;go_wp2_with fail
       go_roundg (t-(x+1))
       case measure=>omega
       case rel =>
        refine⟨x+1,_,by omega,by go_num,K1.out,Za (by rw[Qw];exact c6.out),Za (λy=>?_),C0.out⟩;rw[Qh];by_cases hy:x=y
        ·subst hy
         rw[Gx rfl,Gx (by rw[c6.out];exact u3),Gx (by omega),Zj8,hf.out];rfl
        ·rw[Gw hy,H1.out y]
         by_cases h1:y<x;rw[Gx h1,Gx (by omega)];rw[Gw h1,Gw (by omega)]
    | succ j =>
     obtain rfl:j=n1-(t+1):=by omega
     have J1:t<n1:=by omega
     have t2:decide ((t:Int)<(n1:Int))=true:=Gv (by omega);have bt:(t:Int)<(n1:Int):=by omega
     obtain⟨g1,o1,na,A2,n2,c2,nb,B2,m2,d2,rfl,h4,j4⟩:=(hF.out.below g5).at_ J1;obtain⟨p0,p1,p2,p3⟩:=h4;obtain⟨f,hf⟩:∃ X:Rat,row[t]?.getD 0=X:=⟨_,rfl⟩;rw[hf]at j4;have N1:f.den<pw 1000:=by rw[<- hf];exact Qy (Zp4 row (QC t)) (f7.out (t+1) (by omega))
     have r9:Hid (denTo row (t+1)=denTo row t*(f.den/QH (denTo row t) f.den)):=Za (by rw[<- hf];rfl);have J3:0<QH (denTo row t) f.den:=Nat.gcd_pos_of_pos_left _ (Zed row t)
     have K0:Hid (((QH (denTo row t) f.den:Nat):Int).natAbs<pw 4096):=Za (by
      rw[Qq];exact Qy (Nat.le_of_dvd (Zed row t) (Nat.gcd_dvd_left _ _)) (Qf (f7.out t (by omega)) (Zb4 (by decide))))
     obtain⟨gf,j5⟩:=Gz wr.heap.size;obtain⟨Vf,p4,e3,qf,kW,kB,sf⟩:=Zr 41 #[.bool na,.slice A2 n2 c2,.bool nb,.slice B2 m2 d2] (Qe wr.heap.size wr) (Qb _);have h5:=j4.below e3;have m0:=e8.below e3;have d6:=c9.below e3 c9.lt;rw[j5]at qf;obtain⟨s0,s1,s2,s3,-⟩:=qf.four;obtain⟨r0,r1,-,-⟩:=d6.two;have z4:Hid (Kept (λk=>k=gd) V Vf):=Za (s9.below e3);replace qf:=Za qf;replace d6:=Za d6;replace hf:=Za hf;clear j4 e8 c9 kW kB sf s9;go_wp2_with fail;(try rw[j5]);(try rw[p4]);refine(Zkj dn nb dA B2 dk dc m2 d2 _ _ Vf m0 h5.2).mono ?_;rw[Qq,Qq];rintro e w2 ⟨m8,n3,A3,k3,c3,code,rfl,hR⟩;have hG:=hR.small K0.out;have D9:=Zc m8 qf.out;have E5:=Zc m8 d6.out;have H0:=m0.below m8;have G4:=h5.2.below m8;have H7:Hid (Kept (λk=>k=gd) V w2):=Za (z4.out.below m8);clear s0 s1 s2 s3 r0 r1 m0 h5 qf d6 m8 hR p4 p0 p1 p2 p3;obtain⟨gc,v4⟩:=Gz w2.heap.size;obtain⟨Vc,F4,i9,qc,kW,kB,sc⟩:=Zr 39 #[.bool n3,.slice A3 k3 c3] (Qe w2.heap.size w2) (Qb _);have I5:=hG.below i9;have I2:=H0.below i9;have I8:=G4.below i9;have E7:=D9.below i9 D9.lt;have m6:=E5.below i9 E5.lt;have J6:Hid (Kept (λk=>k=gd) V Vc):=Za (H7.out.below i9);rw[v4]at qc;obtain⟨-,-,s2,s3,-⟩:=E7.four;obtain⟨r0,r1,H4,H2⟩:=m6.two;obtain⟨y0,y1,-,-⟩:=qc.two;have C7:Hid (((QH (denTo row t) f.den:Nat):Int)≠0):=Za (by omega)
     have z9:Hid ((((denTo row t:Nat):Int)*QB ((f.den:Nat):Int) ((QH (denTo row t) f.den:Nat):Int)).natAbs<pw 4096):=Za (by
      rw[Zj8,<- QN,<- r9.out,Qq];exact Qf (f7.out (t+1) (by omega)) (Zb4 (by decide)))
     replace m6:=Za m6;clear hG H0 G4 D9 E5 E7 qc kW kB sc i9 H7;go_wp2_with fail;(try rw[v4]);(try rw[F4]);replace j5:=Za j5;replace v4:=Za v4;clear F4;have O:Hid (∀ wx,Below Vc.heap.size Vc wx->wx.cell? ⟨gd,0,none⟩=some (.bool dn)/\wx.cell? ⟨gd,1,none⟩=some (.slice dA dk dc)/\wx.cell? ⟨gf,2,none⟩=some (.bool nb)/\wx.cell? ⟨gf,3,none⟩=some (.slice B2 m2 d2)/\wx.cell? ⟨gc,0,none⟩=some (.bool n3)/\wx.cell? ⟨gc,1,none⟩=some (.slice A3 k3 c3)):=Za (λwx hbx=>⟨Zb hbx r0,Zb hbx r1,Zb hbx s2,Zb hbx s3,Zb hbx y0,Zb hbx y1⟩);have b7:Below Vc.heap.size Vc Vc.drew:=Zf (Qe _ _) 1;refine wp_heldS [6] hmx O b7 (λhxs9=>?_);refine Zjw 4 [0,1,2,3] rfl (by kernel_rfl) (O.out _ b7) ?_
     iterate 4 (refine tkA ?_;try simp only[Qa,Zg4,Zgk,Zgx,Gr,Gq,Gp])
     refine tk0 ?_;refine wpAnyL_o 4 λK hK=>?_;go_simp;refine(Zpm nb n3 B2 A3 m2 d2 k3 c3 _ _ Vc.drew (I8.below b7) (I5.below b7) C7.out).mono ?_;rintro e D8 ⟨f8,B5,z8,E0,E3,rfl,f9⟩;have b5:=b7.trans (f8.mono b7.size);refine hK.out _ _ (λ_=>O.out _ b5) ?_;clear hK K
     try simp only[Qa,Zg4,Zgk,Zgx]
     refine wpAnyL_o 5 λK hK=>?_;go_simp;refine(Zfo dn B5 dA z8 dk dc E0 E3 _ _ D8 (I2.below b5) f9 z9.out).mono ?_;rintro e y9 ⟨g2,o2,s4,o9,n4,rfl,g7⟩;have J:=b5.trans (g2.mono b5.size);refine hK.out _ _ (λ_=>O.out _ J) ?_;clear hK K
     try simp only[Qa,Zg4,Zgk,Zgx]
     obtain⟨Z9,C,K7,q9,st⟩:=Zas (B:=gd) o2 s4 o9 n4 (Qe gd y9) (Qb gd) (m6.out.below J m6.out.lt)
     have J5:Hid (Wd Z9 o2 s4 o9 n4 ((denTo row (t+1):Nat):Int)):=Za (by
      have h1:=st.1 _ _ _ _ _ g7;rw[Zj8,<- QN,<- r9.out]at h1;exact h1)
     have C0:Hid (Kept (λk=>k=gd) V Z9):=Za (by rw[<- C];exact((J6.out.below J).set_ (p:=⟨gd,0,none⟩) (.inl rfl) _).set_ (p:=⟨gd,1,none⟩) (.inl rfl) _);have g0:=Zb J r0;have g1:=Zb J r1;have f0:=Zn J r0 H4;have f1:=Zn J r1 H2;refine Zm (i:=6) rfl (by kernel_rfl) (by kernel_rfl) (λK hK=>?_);go_simp;(try rw[C]);refine hK.out _ _ ?_;clear hK K
     try simp only[Qa,Zg4,Zgk,Zgx]
     refine wpAnyL_fin ?_;clear C f0 f1 g0 g1 f8 g2 b7 b5 J O hxs9 r0 r1 H4 H2 s2 s3 y0 y1 f9 g7 st K7 I5 I2 I8 m6;go_wp2_with fail
     go_roundg (n1-(t+1))
     case measure=>omega
     case rel=>exact⟨t+1,o2,s4,o9,n4,by omega,by go_num,q9,J5.out,C0.out⟩
