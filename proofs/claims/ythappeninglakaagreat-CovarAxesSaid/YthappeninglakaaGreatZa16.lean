/- Package linear: eliminate. An append of numbers, and whose -/
import Derived.ScopeJumps
import Derived.WalkMore
import Derived.Test.YthappeninglakaaGreatZa15
set_option maxRecDepth 100000
set_option maxHeartbeats 16000000
set_option linter.unusedSimpArgs false
set_option linter.unusedVariables false
namespace Go.Proofs.YthappeninglakaaGreat
open Go.RowKit
open Nat renaming le_refl→Qa,lt_of_lt_of_le→Qd,add_sub_cancel'→Qk,lt_of_le_of_lt→Qs,le_trans→Qv,lt_succ_self→Qx,zero_add→Qz,le_of_lt→QA,gcd→QB,zero_le→QE,not_lt_zero→QH
open Act renaming put→Qb
open Below renaming refl→Qc
open List renaming getElem?_set→Qe,length_map→Qf,replicate→Qg,getElem?_eq_getElem→Qh,length_append→Qi,length_set→Qo,map_append→Qp,mem_singleton→Qr,ext_getElem?→Qt,range→Qu,getElem?_eq_none→Qy,getElem?_map→QC,append_assoc→QD,nil_append→QI
open Int renaming natAbs_natCast→Qj,fdiv→Qw,natCast_mul→QJ
open Builtin renaming zeroCells→Ql
open Kept renaming refl→Qm
open Blk renaming new→Qn
open _root_.Array renaming toList_append→Qq
open Option renaming getD_some→QF
open Or renaming inl→QG
attribute [local go_sem] Zi
theorem Zny{f c r:Nat}{Z:List (List Int)}{ng:Bool}{last:Int}(h:r=Z.length):Zas f c r Z ng last=(Z,r,ng,last):=by
 cases f with
 | zero=>rfl
 | succ f=>unfold Zas;rw[Gx h]
theorem Zmy{f c r q:Nat}{Z:List (List Int)}{ng:Bool}{last:Int}(h:r≠Z.length)(hq:Zbt (λi=>Zaf Z i c == 0) Z.length Z.length r=q)(hn:q=Z.length):Zas (f+1) c r Z ng last=Zas f (c+1) r Z ng last:=by
 show (if r=Z.length then _ else _)=_;rw[Gw h,hq,Gx hn]
theorem Zne{f c r q:Nat}{Z:List (List Int)}{ng:Bool}{last:Int}(h:r≠Z.length)(hq:Zbt (λi=>Zaf Z i c == 0) Z.length Z.length r=q)(hn:q≠Z.length):Zas (f+1) c r Z ng last=Zas f (c+1) (r+1) (Zdx (Zag Z q r) r c last) (ng != decide (q≠r)) (Zaf Z q c):=by
 show (if r=Z.length then _ else _)=_;rw[Gw h,hq,Gw hn]
theorem Zzl{C m f c r:Nat}{Z:List (List Int)}{last:Int}(h:okZ C m f c r Z last):BdZ C m Z/\last≠0/\last.natAbs<C:=by
 cases f with
 | zero=>exact h
 | succ f=>exact⟨h.1,h.2.1⟩
theorem Zs4{C m f c r q:Nat}{Z:List (List Int)}{last:Int}(h:okZ C m (f+1) c r Z last)(h0:r≠Z.length)(hq:Zbt (λi=>Zaf Z i c == 0) Z.length Z.length r=q)(hn:q=Z.length):okZ C m f (c+1) r Z last:=by
 rcases h.2.2 with h1|h1;exact absurd h1 h0;exact h1.1 (by rw[hq];exact hn)
theorem Zs1{C m f c r q:Nat}{Z:List (List Int)}{last:Int}(h:okZ C m (f+1) c r Z last)(h0:r≠Z.length)(hq:Zbt (λi=>Zaf Z i c == 0) Z.length Z.length r=q)(hn:q≠Z.length):okZ C m f (c+1) (r+1) (Zdx (Zag Z q r) r c last) (Zaf Z q c):=by
 rcases h.2.2 with h1|h1;exact absurd h1 h0;have:=h1.2 (by rw[hq];exact hn);rw[hq]at this;exact this
def ClzTo(L L2:List RZ)(r col:Nat)(last:Int)(i:Nat):Prop:=∀ j,j<L.length->Za1 L2 j=if j<=r \/ i<=j then Za1 L j else Zry (Za1 L r) (Za1 L j) col ((Za1 L r)[col]?.getD 0) last
theorem ClzTo.step{L L2:List RZ}{r col i:Nat}{last:Int}{x:RZ}(h:ClzTo L L2 r col last i)(hl:L2.length=L.length)(hi:i<L.length)(hri:r<i)(hx:x.q=Zry (Za1 L r) (Za1 L i) col ((Za1 L r)[col]?.getD 0) last):ClzTo L (L2.set i x) r col last (i+1):=by
 intro j hj;rw[Zxa Gk,h j hj];exact CC
theorem ClzTo.pass{L L2:List RZ}{r col i:Nat}{last:Int}(h:ClzTo L L2 r col last i)(hri:i<=r):ClzTo L L2 r col last (i+1):=by
 intro j hj;rw[h j hj];exact FH
theorem ClzTo.done{L L2:List RZ}{r col:Nat}{last:Int}(h:ClzTo L L2 r col last L.length)(hl:L2.length=L.length):L2.map RZ.q=Zdx (L.map RZ.q) r col last:=by
 refine Z0k (by rw[Zi7];simpa using hl) (λi hi=>?_);rw[Zi7,Qf]at hi;rw[h i hi,Zt1 (by simpa using hi),<- Zk1,<- Zk1,Zkp];exact Cl
theorem Exit.jump_mono{l:Nat}{J J':Act->World->Prop}{Q:Exit->Act->World->Prop}(h:∀ a w,J a w->J' a w):∀ e a w,Exit.jump l J Q e a w->Exit.jump l J' Q e a w:=λe a w he=>by
 cases e <;> first|exact he|exact⟨he.1,h _ _ he.2⟩
theorem Zn4{P:Program}{a:Act}{w:World}{Q:Exit->Act->World->Prop}{c rest:Code}(l:Nat)(J:Act->World->Prop)(μ:Act->World->Nat)(hf:findLabel c l=some (Code.skip.seq rest))
    (pass:∀ a w,J a w->rest.wp P (Exit.jump l (λa' w'=>J a' w'/\μ a' w'<μ a w) Q) a w)
    (first:(∀ a w,J a w->rest.wp P (Exit.jump l J Q) a w)->c.wp P (Exit.jump l J Q) a w):(Code.scope c).wp P Q a w:=
 wp_scope_jumps l J μ hf (first λa w h=>wp_mono (pass a w h) (Exit.jump_mono λ_ _ h=>h.1)) (λa w h=>wp_seq (wp_skip (pass a w h)))
theorem Zue(k r:Nat):swI k r r=k:=by unfold swI;split;assumption;rw[Gx rfl]
theorem Ztp{α:Type}(l:List α)(i:Nat):Zag l i i=l:=by
 apply Qt;intro j;unfold Zag;cases h:l[i]? with
 | none=>rfl
 | some x =>
  have hi:=(List.getElem?_eq_some_iff.1 h).1;simp only;rw[Qe,Qe,Qo];by_cases hij:i=j;subst hij;rw[Gx rfl,Gx hi,h];rw[Gw hij,Gw hij]
theorem Kept.and{G H:Nat->Prop}{w W V:World}(h1:Kept G w W)(h2:Kept H W V)(hG:∀ k,k<w.heap.size->H k->G k):Kept G w V:=
 ⟨h2.os.trans h1.os,h2.tape.trans h1.tape,h2.output.trans h1.output,Qv h1.size h2.size,λk hk hg=>(h2.block k (Qd hk h1.size) (λh=>hg (hG k hk h))).trans (h1.block k hk hg)⟩
theorem Zjk{a b:Int}{i j:Nat}(h:a.natAbs<pw i)(g:b.natAbs<pw j):(a*b).natAbs<pw (i+j):=by rw[Int.natAbs_mul];exact Zc4 h g
theorem Zt9{a b:Int}{i:Nat}(h:a.natAbs<pw i)(g:b.natAbs<pw i):(a-b).natAbs<pw (i+1):=by
 have:=Zqi i;omega
theorem Kept.shrink{G G':Nat->Prop}{w W V:World}(h1:Below w.heap.size w W)(h2:Kept G W V)(hG:∀ k,k<w.heap.size->G k->G' k):Kept G' w V:=
 ⟨h2.os.trans h1.os,h2.tape.trans h1.tape,h2.output.trans h1.output,Qv h1.size h2.size,λk hk hg=>(h2.block k (Qd hk h1.size) (λh=>hg (hG k hk h))).trans (h1.block k hk)⟩
theorem Zx6(T:Array Value):∀ i,i<118->∀ h:i<(#[T.getD 0 undef,T.getD 1 undef,T.getD 2 undef,T.getD 3 undef,T.getD 4 undef,T.getD 5 undef,T.getD 6 undef,T.getD 7 undef,T.getD 8 undef,T.getD 9 undef,T.getD 10 undef,T.getD 11 undef,T.getD 12 undef,T.getD 13 undef,T.getD 14 undef,T.getD 15 undef,T.getD 16 undef,T.getD 17 undef,T.getD 18 undef,T.getD 19 undef,T.getD 20 undef,T.getD 21 undef,T.getD 22 undef,T.getD 23 undef,T.getD 24 undef,T.getD 25 undef,T.getD 26 undef,T.getD 27 undef,T.getD 28 undef,T.getD 29 undef,T.getD 30 undef,T.getD 31 undef,T.getD 32 undef,T.getD 33 undef,T.getD 34 undef,T.getD 35 undef,T.getD 36 undef,T.getD 37 undef,T.getD 38 undef,T.getD 39 undef,T.getD 40 undef,T.getD 41 undef,T.getD 42 undef,T.getD 43 undef,T.getD 44 undef,T.getD 45 undef,T.getD 46 undef,T.getD 47 undef,T.getD 48 undef,T.getD 49 undef,T.getD 50 undef,T.getD 51 undef,T.getD 52 undef,T.getD 53 undef,T.getD 54 undef,T.getD 55 undef,T.getD 56 undef,T.getD 57 undef,T.getD 58 undef,T.getD 59 undef,T.getD 60 undef,T.getD 61 undef,T.getD 62 undef,T.getD 63 undef,T.getD 64 undef,T.getD 65 undef,T.getD 66 undef,T.getD 67 undef,T.getD 68 undef,T.getD 69 undef,T.getD 70 undef,T.getD 71 undef,T.getD 72 undef,T.getD 73 undef,T.getD 74 undef,T.getD 75 undef,T.getD 76 undef,T.getD 77 undef,T.getD 78 undef,T.getD 79 undef,T.getD 80 undef,T.getD 81 undef,T.getD 82 undef,T.getD 83 undef,T.getD 84 undef,T.getD 85 undef,T.getD 86 undef,T.getD 87 undef,T.getD 88 undef,T.getD 89 undef,T.getD 90 undef,T.getD 91 undef,T.getD 92 undef,T.getD 93 undef,T.getD 94 undef,T.getD 95 undef,T.getD 96 undef,T.getD 97 undef,T.getD 98 undef,T.getD 99 undef,T.getD 100 undef,T.getD 101 undef,T.getD 102 undef,T.getD 103 undef,T.getD 104 undef,T.getD 105 undef,T.getD 106 undef,T.getD 107 undef,T.getD 108 undef,T.getD 109 undef,T.getD 110 undef,T.getD 111 undef,T.getD 112 undef,T.getD 113 undef,T.getD 114 undef,T.getD 115 undef,T.getD 116 undef,T.getD 117 undef]:Array Value).size,T.getD i undef=(#[T.getD 0 undef,T.getD 1 undef,T.getD 2 undef,T.getD 3 undef,T.getD 4 undef,T.getD 5 undef,T.getD 6 undef,T.getD 7 undef,T.getD 8 undef,T.getD 9 undef,T.getD 10 undef,T.getD 11 undef,T.getD 12 undef,T.getD 13 undef,T.getD 14 undef,T.getD 15 undef,T.getD 16 undef,T.getD 17 undef,T.getD 18 undef,T.getD 19 undef,T.getD 20 undef,T.getD 21 undef,T.getD 22 undef,T.getD 23 undef,T.getD 24 undef,T.getD 25 undef,T.getD 26 undef,T.getD 27 undef,T.getD 28 undef,T.getD 29 undef,T.getD 30 undef,T.getD 31 undef,T.getD 32 undef,T.getD 33 undef,T.getD 34 undef,T.getD 35 undef,T.getD 36 undef,T.getD 37 undef,T.getD 38 undef,T.getD 39 undef,T.getD 40 undef,T.getD 41 undef,T.getD 42 undef,T.getD 43 undef,T.getD 44 undef,T.getD 45 undef,T.getD 46 undef,T.getD 47 undef,T.getD 48 undef,T.getD 49 undef,T.getD 50 undef,T.getD 51 undef,T.getD 52 undef,T.getD 53 undef,T.getD 54 undef,T.getD 55 undef,T.getD 56 undef,T.getD 57 undef,T.getD 58 undef,T.getD 59 undef,T.getD 60 undef,T.getD 61 undef,T.getD 62 undef,T.getD 63 undef,T.getD 64 undef,T.getD 65 undef,T.getD 66 undef,T.getD 67 undef,T.getD 68 undef,T.getD 69 undef,T.getD 70 undef,T.getD 71 undef,T.getD 72 undef,T.getD 73 undef,T.getD 74 undef,T.getD 75 undef,T.getD 76 undef,T.getD 77 undef,T.getD 78 undef,T.getD 79 undef,T.getD 80 undef,T.getD 81 undef,T.getD 82 undef,T.getD 83 undef,T.getD 84 undef,T.getD 85 undef,T.getD 86 undef,T.getD 87 undef,T.getD 88 undef,T.getD 89 undef,T.getD 90 undef,T.getD 91 undef,T.getD 92 undef,T.getD 93 undef,T.getD 94 undef,T.getD 95 undef,T.getD 96 undef,T.getD 97 undef,T.getD 98 undef,T.getD 99 undef,T.getD 100 undef,T.getD 101 undef,T.getD 102 undef,T.getD 103 undef,T.getD 104 undef,T.getD 105 undef,T.getD 106 undef,T.getD 107 undef,T.getD 108 undef,T.getD 109 undef,T.getD 110 undef,T.getD 111 undef,T.getD 112 undef,T.getD 113 undef,T.getD 114 undef,T.getD 115 undef,T.getD 116 undef,T.getD 117 undef]:Array Value)[i]
 | 0,_,_=>rfl
 | 1,_,_=>rfl
 | 2,_,_=>rfl
 | 3,_,_=>rfl
 | 4,_,_=>rfl
 | 5,_,_=>rfl
 | 6,_,_=>rfl
 | 7,_,_=>rfl
 | 8,_,_=>rfl
 | 9,_,_=>rfl
 | 10,_,_=>rfl
 | 11,_,_=>rfl
 | 12,_,_=>rfl
 | 13,_,_=>rfl
 | 14,_,_=>rfl
 | 15,_,_=>rfl
 | 16,_,_=>rfl
 | 17,_,_=>rfl
 | 18,_,_=>rfl
 | 19,_,_=>rfl
 | 20,_,_=>rfl
 | 21,_,_=>rfl
 | 22,_,_=>rfl
 | 23,_,_=>rfl
 | 24,_,_=>rfl
 | 25,_,_=>rfl
 | 26,_,_=>rfl
 | 27,_,_=>rfl
 | 28,_,_=>rfl
 | 29,_,_=>rfl
 | 30,_,_=>rfl
 | 31,_,_=>rfl
 | 32,_,_=>rfl
 | 33,_,_=>rfl
 | 34,_,_=>rfl
 | 35,_,_=>rfl
 | 36,_,_=>rfl
 | 37,_,_=>rfl
 | 38,_,_=>rfl
 | 39,_,_=>rfl
 | 40,_,_=>rfl
 | 41,_,_=>rfl
 | 42,_,_=>rfl
 | 43,_,_=>rfl
 | 44,_,_=>rfl
 | 45,_,_=>rfl
 | 46,_,_=>rfl
 | 47,_,_=>rfl
 | 48,_,_=>rfl
 | 49,_,_=>rfl
 | 50,_,_=>rfl
 | 51,_,_=>rfl
 | 52,_,_=>rfl
 | 53,_,_=>rfl
 | 54,_,_=>rfl
 | 55,_,_=>rfl
 | 56,_,_=>rfl
 | 57,_,_=>rfl
 | 58,_,_=>rfl
 | 59,_,_=>rfl
 | 60,_,_=>rfl
 | 61,_,_=>rfl
 | 62,_,_=>rfl
 | 63,_,_=>rfl
 | 64,_,_=>rfl
 | 65,_,_=>rfl
 | 66,_,_=>rfl
 | 67,_,_=>rfl
 | 68,_,_=>rfl
 | 69,_,_=>rfl
 | 70,_,_=>rfl
 | 71,_,_=>rfl
 | 72,_,_=>rfl
 | 73,_,_=>rfl
 | 74,_,_=>rfl
 | 75,_,_=>rfl
 | 76,_,_=>rfl
 | 77,_,_=>rfl
 | 78,_,_=>rfl
 | 79,_,_=>rfl
 | 80,_,_=>rfl
 | 81,_,_=>rfl
 | 82,_,_=>rfl
 | 83,_,_=>rfl
 | 84,_,_=>rfl
 | 85,_,_=>rfl
 | 86,_,_=>rfl
 | 87,_,_=>rfl
 | 88,_,_=>rfl
 | 89,_,_=>rfl
 | 90,_,_=>rfl
 | 91,_,_=>rfl
 | 92,_,_=>rfl
 | 93,_,_=>rfl
 | 94,_,_=>rfl
 | 95,_,_=>rfl
 | 96,_,_=>rfl
 | 97,_,_=>rfl
 | 98,_,_=>rfl
 | 99,_,_=>rfl
 | 100,_,_=>rfl
 | 101,_,_=>rfl
 | 102,_,_=>rfl
 | 103,_,_=>rfl
 | 104,_,_=>rfl
 | 105,_,_=>rfl
 | 106,_,_=>rfl
 | 107,_,_=>rfl
 | 108,_,_=>rfl
 | 109,_,_=>rfl
 | 110,_,_=>rfl
 | 111,_,_=>rfl
 | 112,_,_=>rfl
 | 113,_,_=>rfl
 | 114,_,_=>rfl
 | 115,_,_=>rfl
 | 116,_,_=>rfl
 | 117,_,_=>rfl
 | n+118,h,_=>absurd h Gk
theorem Zmq{T:Array Value}{v0 v1 v2 v4 v5 v6 v7:Value}{p:Prop}(hs:T.size=118)(h0:T.getD 0 undef=v0)(h1:T.getD 1 undef=v1)(h2:T.getD 2 undef=v2)(h4:T.getD 4 undef=v4)(h5:T.getD 5 undef=v5)(h6:T.getD 6 undef=v6)(h7:T.getD 7 undef=v7)(hp:p) :
    ∃ u:Nat->Value,({ tmps:=T,defers:=[] }:Act)={ tmps:=#[v0,v1,v2,u 3,v4,v5,v6,v7,u 8,u 9,u 10,u 11,u 12,u 13,u 14,u 15,u 16,u 17,u 18,u 19,u 20,u 21,u 22,u 23,u 24,u 25,u 26,u 27,u 28,u 29,u 30,u 31,u 32,u 33,u 34,u 35,u 36,u 37,u 38,u 39,u 40,u 41,u 42,u 43,u 44,u 45,u 46,u 47,u 48,u 49,u 50,u 51,u 52,u 53,u 54,u 55,u 56,u 57,u 58,u 59,u 60,u 61,u 62,u 63,u 64,u 65,u 66,u 67,u 68,u 69,u 70,u 71,u 72,u 73,u 74,u 75,u 76,u 77,u 78,u 79,u 80,u 81,u 82,u 83,u 84,u 85,u 86,u 87,u 88,u 89,u 90,u 91,u 92,u 93,u 94,u 95,u 96,u 97,u 98,u 99,u 100,u 101,u 102,u 103,u 104,u 105,u 106,u 107,u 108,u 109,u 110,u 111,u 112,u 113,u 114,u 115,u 116,u 117],defers:=[] }/\p:=by
 refine⟨λk=>T.getD k undef,?_,hp⟩;subst h0 h1 h2 h4 h5 h6 h7;congr 1;apply Array.ext;rw[hs];rfl;intro i e f;have hi:i<118:=Gk;have hT:T[i]=T.getD i undef:=by rw[Array.getD_eq_getD_getElem?,Array.getElem?_eq_getElem e];rfl
 rw[hT];clear hT e;exact Zx6 T i hi f
def colOf:Value->Int | .int _ q=>q|_=>0
theorem Ey{G:Prop}(h:G:=by
 obtain⟨X,hX,cu,q4,st⟩:=Zaz (B:=gl) ln lA lk lc (Below.refl gl ((wA.setCell ⟨gr,0,none⟩ (.int .i64 r)).setCell ⟨gn,0,none⟩ (.bool ng))) (Nat.le_refl gl) ((b3.far (Ne.symm d3) _).far (Ne.symm d4) _);have x1:Blk X gr 3 #[.int .i64 r]:=by rw[<- hX];exact((((b1.set_ 0 (.int .i64 r)).far d1 _).far d3 _).far d3 _)
 have x2:Blk X gn 4 #[.bool ng]:=by rw[<- hX];exact(((b2.far (Ne.symm d1) _).set_ 0 (.bool ng)).far d4 _).far d4 _
 have cX:Kept (λk=>k=gr \/ k=gn \/ k=gl) wA X:=by
  rw[<- hX];exact((((Kept.refl _ wA).set_ (p:=⟨gr,0,none⟩) (.inl (.inl rfl)) _).set_ (p:=⟨gn,0,none⟩) (.inl (.inr (.inl rfl))) _).set_ (p:=⟨gl,0,none⟩) (.inl (.inr (.inr rfl))) _).set_ (p:=⟨gl,1,none⟩) (.inl (.inr (.inr rfl))) _
 have dK:∀ k,(k=gr \/ k=gn \/ k=gl)->∃ t cs,Blk wA k t cs/\NoLimb cs:=λk hk=>by
  rcases hk with rfl|rfl|rfl;exact⟨_,_,b1,Zfo (λx=>by simp)⟩;exact⟨_,_,b2,Zfo (λx=>by simp)⟩;exact⟨_,_,b3,Zgl _ _ _ _⟩
 have ew:Hid (MatZ 150 39 X go L2):=Zd (eQ.keptG cX (λh=>by have:=e4 go (.inl rfl);omega) (λs hs h=>by have:=e4 s.g (.inr (aW _ (List.mem_map.2 ⟨s,hs,rfl⟩)));omega) dK);have ez:Hid (Wd X ln lA lk lc last):=Zd (cX.wd cb dK)
 have dy:Hid (Kept (λg=>g=go \/ g ∈ L0.map RZ.g) w X):=Zd (Kept.shrink (by rw[dg.out];exact aq.out) (hK.trans (cX.mono (λk _ h=>by rcases h with h|h|h <;> simp[h]))) (λk hk h=>by
  rw[dg.out]at hk;rcases h with h|h|h|h|h;exact .inl h;exact .inr h;omega;omega;omega))
 have c1:wA.cell? ⟨gr,0,none⟩=some (.int .i64 r):=by rw[b1.cell];rfl
 have z1:=b1.frozen 0;have c2:wA.cell? ⟨gn,0,none⟩=some (.bool ng):=by rw[b2.cell];rfl
 have z2:=b2.frozen 0;obtain⟨c3,c4,z3,z4⟩:=b3.two;have ee:=b2.far (p:=⟨gr,0,none⟩) (Ne.symm d1) (Value.int .i64 r);have gY:(wA.setCell ⟨gr,0,none⟩ (.int .i64 r)).cell? ⟨gn,0,none⟩=some (.bool ng):=by rw[ee.cell];rfl
 have jI:=ee.frozen 0;obtain⟨gZ,ia,jJ,jK⟩:=(b3.far (p:=⟨gr,0,none⟩) (Ne.symm d3) (Value.int .i64 r)).two;have gW:(wA.setCell ⟨gr,0,none⟩ (.int .i64 r)).cell? ⟨gr,0,none⟩=some (.int .i64 r):=by rw[(b1.set_ 0 (.int .i64 r)).cell];rfl
 have el:((wA.setCell ⟨gr,0,none⟩ (.int .i64 r)).setCell ⟨gn,0,none⟩ (.bool ng)).cell? ⟨gr,0,none⟩=some (.int .i64 r):=by rw[((b1.set_ 0 (.int .i64 r)).far (p:=⟨gn,0,none⟩) d1 _).cell];rfl
 have eo:((wA.setCell ⟨gr,0,none⟩ (.int .i64 r)).setCell ⟨gn,0,none⟩ (.bool ng)).cell? ⟨gn,0,none⟩=some (.bool ng):=by rw[(ee.set_ 0 (.bool ng)).cell];rfl
 have gG:=(ee.set_ 0 (.bool ng)).frozen 0;obtain⟨ep,er,gH,gI⟩:=((b3.far (p:=⟨gr,0,none⟩) (Ne.symm d3) (Value.int .i64 r)).far (p:=⟨gn,0,none⟩) (Ne.symm d4) (Value.bool ng)).two;obtain⟨y3,y4,-,-⟩:=q4.two;have y1:X.cell? ⟨gr,0,none⟩=some (.int .i64 r):=by rw[x1.cell];rfl
 have y2:X.cell? ⟨gn,0,none⟩=some (.bool ng):=by rw[x2.cell];rfl
 clear b1 b2 b3 ee eQ cb hK hE bG st cu cX dK;go_wp2_with fail;have fM:wA.drew.cell? ⟨gr,0,none⟩=some (.int .i64 r)/\wA.drew.cell? ⟨gn,0,none⟩=some (.bool ng)/\wA.drew.cell? ⟨gl,0,none⟩=some (.bool ln)/\wA.drew.cell? ⟨gl,1,none⟩=some (.slice lA lk lc):=⟨c1,c2,c3,c4⟩;have ip:(wA.setCell ⟨gr,0,none⟩ (.int .i64 r)).drew.cell? ⟨gr,0,none⟩=some (.int .i64 r)/\(wA.setCell ⟨gr,0,none⟩ (.int .i64 r)).drew.cell? ⟨gn,0,none⟩=some (.bool ng)/\(wA.setCell ⟨gr,0,none⟩ (.int .i64 r)).drew.cell? ⟨gl,0,none⟩=some (.bool ln)/\(wA.setCell ⟨gr,0,none⟩ (.int .i64 r)).drew.cell? ⟨gl,1,none⟩=some (.slice lA lk lc):=⟨gW,gY,gZ,ia⟩;have iq:((wA.setCell ⟨gr,0,none⟩ (.int .i64 r)).setCell ⟨gn,0,none⟩ (.bool ng)).drew.cell? ⟨gr,0,none⟩=some (.int .i64 r)/\((wA.setCell ⟨gr,0,none⟩ (.int .i64 r)).setCell ⟨gn,0,none⟩ (.bool ng)).drew.cell? ⟨gn,0,none⟩=some (.bool ng)/\((wA.setCell ⟨gr,0,none⟩ (.int .i64 r)).setCell ⟨gn,0,none⟩ (.bool ng)).drew.cell? ⟨gl,0,none⟩=some (.bool ln)/\((wA.setCell ⟨gr,0,none⟩ (.int .i64 r)).setCell ⟨gn,0,none⟩ (.bool ng)).drew.cell? ⟨gl,1,none⟩=some (.slice lA lk lc):=⟨el,eo,ep,er⟩;have ir:X.drew.cell? ⟨gr,0,none⟩=some (.int .i64 r)/\X.drew.cell? ⟨gn,0,none⟩=some (.bool ng)/\X.drew.cell? ⟨gl,0,none⟩=some (.bool ln)/\X.drew.cell? ⟨gl,1,none⟩=some (.slice lA lk lc):=⟨y1,y2,y3,y4⟩
 refine Zz [] (λwx=>wx.cell? ⟨gr,0,none⟩=some (.int .i64 r)/\wx.cell? ⟨gn,0,none⟩=some (.bool ng)/\wx.cell? ⟨gl,0,none⟩=some (.bool ln)/\wx.cell? ⟨gl,1,none⟩=some (.slice lA lk lc)) hmx fM (λhxs=>?_);refine Zkb 3 [0,1,2] rfl Gi fM ?_
 iterate 3 (refine tkA ?_;try simp only[Act.put,Zg9,Zgn,Zg3,Gr,Gq,Gp])
 refine tk0 ?_;refine wpAnyL_o 3 λK hK=>?_;go_simp;(try rw[hX]);refine hK.out _ _ (λ_=>ip) ?_;clear hK K
 try simp only[Act.put,Zg9,Zgn,Zg3]
 refine wpAnyL_o 4 λK hK=>?_;go_simp;(try rw[hX]);refine hK.out _ _ (λ_=>iq) ?_;clear hK K
 try simp only[Act.put,Zg9,Zgn,Zg3]
 refine wpAnyL_o 5 λK hK=>?_;go_simp;(try rw[hX]);refine hK.out _ _ (λ_=>ir) ?_;clear hK K
 try simp only[Act.put,Zg9,Zgn,Zg3]
 refine wpAnyL_fin ?_;clear c1 c2 c3 c4 z1 z2 z3 z4 gY jI gZ ia jJ jK fM ip iq ir hxs gW el eo ep er gG gH gI;go_wp2_with fail;simp only[Exit.jump];refine bodyPost_ret (v:=.tuple #[.int .i64 r,.bool ng,.agg #[.bool ln,.slice lA lk lc]]) (by simp[results,Tryz.results128,go_sem,y1,y2,y3,y4]) rfl ?_;have fK:=dN.out;exact⟨L2,ln,lA,lk,lc,by rw[<- fK],by rw[<- fK];exact ez.out,dC,aW,by rw[<- fK],ew.out.below (Zh (Below.refl _ _) 1),dy.out.drewN 1⟩):G:=h
theorem Ziv(go n cap:Nat)(L0:List RZ)(vby:Value)(m cols:Nat)(w:World)(hM:MatZ 150 39 w go L0)(hn:L0.length=n)(hn0:0<n)(hn9:n<=900)(hcap:n<=cap)(hcm:cap<=maxLen)(hcs:cols<=m)(hm9:m<=900)
    (l8:okZ (pw 200) m cols 0 0 (L0.map RZ.q) 1) :
    Calls Tryz.prog 128 #[.agg #[.slice (some ⟨go,0,none⟩) n cap,vby],.int .i64 cols] w λe w'=>∃ L2 ln lA lk lc,
     e=.returned (.tuple #[.int .i64 ((Zas cols 0 0 (L0.map RZ.q) false 1).2.1:Nat),.bool (Zas cols 0 0 (L0.map RZ.q) false 1).2.2.1,.agg #[.bool ln,.slice lA lk lc]])/\Wd w' ln lA lk lc (Zas cols 0 0 (L0.map RZ.q) false 1).2.2.2 /\
     L2.length=n/\(∀ g ∈ L2.map RZ.g,g ∈ L0.map RZ.g)/\L2.map RZ.q=(Zas cols 0 0 (L0.map RZ.q) false 1).1/\MatZ 150 39 w' go L2/\Kept (λg=>g=go \/ g ∈ L0.map RZ.g) w w':=by
 have hmx:=Gt;have B5:=hcm;unfold maxLen at hcm;obtain⟨FIN,f5⟩:=Gz (Zas cols 0 0 (L0.map RZ.q) false 1);rw[f5];replace f5:=Zd f5;replace l8:=Zd l8;replace hn:=Zd hn;obtain⟨W0,q9,aq,⟨q0,q1,q2,q3⟩,s0⟩:=Zfr w 152 #[.slice (some ⟨go,0,none⟩) n cap,vby] 3 #[.int .i64 0] 4 #[.bool false] 39 #[.bool false,.slice none 0 0];obtain⟨gg,dg⟩:=Gz w.heap.size;rw[dg]at q0 q1 q2 q3 s0 aq;go_in;go_wp2_with fail;(try rw[q9]);(try rw[dg]);obtain⟨gr,r6⟩:=Gz (gg+1);rw[r6]at q1 q2 q3 ⊢;obtain⟨gn,q6⟩:=Gz (gr+1);rw[q6]at q2 q3 ⊢;obtain⟨gl,o2⟩:=Gz (gn+1);rw[o2]at q3 ⊢;have C8:W0.heap.size=gl+1:=by rw[s0];omega
 have A6:=hM.below (by rw[dg];exact aq:Below w.heap.size w W0)
 have x8:∀ k,(k=go \/ k ∈ L0.map RZ.g)->k<gg:=λk hk=>by
  obtain⟨t,cs,hb,-⟩:=hM.boxes k hk;rw[<- dg];exact hb.lt
 have hD:Hid (gg<gr/\gr<gn/\gn<gl/\(∀ k,(k=go \/ k ∈ L0.map RZ.g)->k<gg)):=Zd ⟨by omega,by omega,by omega,x8⟩;have w8:=Zd hM;clear r6 q6 o2 s0 hM A6 q9;replace dg:=Zd dg;replace aq:=Zd aq
 refine Zn4 0 (λa' w'=>∃ (c r:Nat) (ng:Bool) (last:Int) (ln:Bool) (lA:Option Addr) (lk lc:Nat) (L2:List RZ) (u:Nat->Value),a'={ tmps:=#[.agg #[.slice (some ⟨go,0,none⟩) n cap,vby],.int .i64 cols,.pointer (some ⟨gg,0,none⟩),u 3,.pointer (some ⟨gr,0,none⟩),.pointer (some ⟨gn,0,none⟩),.pointer (some ⟨gl,0,none⟩),.int .i64 c,u 8,u 9,u 10,u 11,u 12,u 13,u 14,u 15,u 16,u 17,u 18,u 19,u 20,u 21,u 22,u 23,u 24,u 25,u 26,u 27,u 28,u 29,u 30,u 31,u 32,u 33,u 34,u 35,u 36,u 37,u 38,u 39,u 40,u 41,u 42,u 43,u 44,u 45,u 46,u 47,u 48,u 49,u 50,u 51,u 52,u 53,u 54,u 55,u 56,u 57,u 58,u 59,u 60,u 61,u 62,u 63,u 64,u 65,u 66,u 67,u 68,u 69,u 70,u 71,u 72,u 73,u 74,u 75,u 76,u 77,u 78,u 79,u 80,u 81,u 82,u 83,u 84,u 85,u 86,u 87,u 88,u 89,u 90,u 91,u 92,u 93,u 94,u 95,u 96,u 97,u 98,u 99,u 100,u 101,u 102,u 103,u 104,u 105,u 106,u 107,u 108,u 109,u 110,u 111,u 112,u 113,u 114,u 115,u 116,u 117],defers:=[] }/\c<=cols/\r<=n /\
     Blk w' gr 3 #[.int .i64 r]/\Blk w' gn 4 #[.bool ng]/\Blk w' gl 39 #[.bool ln,.slice lA lk lc]/\Wd w' ln lA lk lc last/\MatZ 150 39 w' go L2/\L2.length=n/\(∀ g ∈ L2.map RZ.g,g ∈ L0.map RZ.g) /\
     Zas (cols-c) c r (L2.map RZ.q) ng last=FIN/\okZ (pw 200) m (cols-c) c r (L2.map RZ.q) last/\Kept (λk=>k=go \/ k ∈ L0.map RZ.g \/ k=gr \/ k=gn \/ k=gl) W0 w') (λa' _=>cols-(colOf (a'.tmps.getD 7 undef)).toNat) rfl ?pass ?first
 case first =>
  intro m0;go_wp2_with fail;refine(Zb3 1 W0 Gj Gj).mono ?_;rintro e w1 ⟨o1,ln,lA,lk,lc,rfl,hN⟩;obtain⟨e1,e2,e3,e4⟩:=hD.out;have k3:=Ze o1 q3;obtain⟨y0,y1,y2,y3⟩:=k3.two;obtain⟨X,hX,cu,q4,st⟩:=Zaz ln lA lk lc (o1.mono (by omega:gl<=W0.heap.size)) (Qa gl) k3;have k1:=q1.below cu Gk;have k2:=q2.below cu Gk;have ew:=w8.out.below (by rw[dg.out];exact aq.out.trans (cu.mono Gk):Below w.heap.size w X)
  have dy:Kept (λk=>k=go \/ k ∈ L0.map RZ.g \/ k=gr \/ k=gn \/ k=gl) W0 X:=by
   rw[<- hX];exact((Kept.of_below o1).set_ (p:=⟨gl,0,none⟩) (.inl (.inr (.inr (.inr (.inr rfl))))) _).set_ (p:=⟨gl,1,none⟩) (.inl (.inr (.inr (.inr (.inr rfl))))) _
  have ez:=st.1 _ _ _ _ _ hN;go_wp2_with fail;(try rw[hX]);refine wp_label ?_;refine(by assumption:∀ a w,Code.wp _ _ _ a w->_) _ _ ?_;exact m0 _ _ ⟨0,0,false,1,ln,lA,lk,lc,L0,Zmq rfl rfl rfl rfl rfl rfl rfl rfl ⟨QE _,QE _,k1,k2,q4,ez,ew,hn.out,λg h=>h,f5.out,l8.out,dy⟩⟩
 case pass =>
  rintro a' wA ⟨c,r,ng,last,ln,lA,lk,lc,L2,u,rfl,B9,B7,b1,b2,b3,cb,eQ,dC,aW,hE,bG,hK⟩;obtain⟨e1,e2,e3,e4⟩:=hD.out;have d1:gr≠gn:=Gk;have d3:gr≠gl:=Gk;have d4:gn≠gl:=Gk
  have b0:Blk wA gg 152 #[.slice (some ⟨go,0,none⟩) n cap,vby]:=hK.blk q0 (λh=>by
   rcases h with h|h|h|h|h;have:=e4 gg (.inl h);omega;have:=e4 gg (.inr h);omega;omega;omega;omega)
  obtain⟨x0,-,-,-⟩:=b0.two;have i6:=Zd (Zzl bG);have I:Hid ((L2.map RZ.q).length=n):=Zd (by rw[Qf];exact dC);by_cases hc:c=cols
  case pos =>
   have t1:((c:Int) == (cols:Int))=true:=beq_iff_eq.2 Gk;have x7:decide (c=cols)=true:=Gv hc;replace hc:=Zd hc;have dN:Hid ((L2.map RZ.q,r,ng,last)=FIN):=Zd (by rw[<- hE];exact(by have h:=hc.out;subst h;rw[Nat.sub_self];rfl));exact Ey
  have t1:((c:Int) == (cols:Int))=false:=beq_eq_false_iff_ne.2 Gk;have x7:decide (c=cols)=false:=Gu hc;by_cases hr:r=n
  case pos =>
   have t2:((r:Int) == (n:Int))=true:=beq_iff_eq.2 Gk;have w7:decide (r=n)=true:=Gv hr;replace hr:=Zd hr;have dN:Hid ((L2.map RZ.q,r,ng,last)=FIN):=Zd (by rw[<- hE];exact(Zny (by rw[I.out];exact hr.out)).symm);exact Ey
  obtain⟨j,hj⟩:∃ j,cols-c=j+1:=⟨cols-c-1,by omega⟩;rw[hj]at hE bG;have r7:c<cols:=Gk;have J:r<n:=Gk;have t2:((r:Int) == (n:Int))=false:=beq_eq_false_iff_ne.2 Gk;have w7:decide (r=n)=false:=Gu hr;have j4:Hid (r≠(L2.map RZ.q).length):=Zd (by rw[I.out];exact hr);replace hr:=Zd hr;replace hc:=Zd hc;replace hj:=Zd hj;have c1:wA.cell? ⟨gr,0,none⟩=some (.int .i64 r):=by rw[b1.cell];rfl
  obtain⟨ga,f6⟩:=Gz wA.heap.size;obtain⟨V,hV,c8,qa,kW,kB,sV⟩:=Zq 3 #[.int .i64 r] (Qc wA.heap.size wA) (Qa _);have A2:Hid (MatZ 150 39 V go L2):=Zd (eQ.below c8);have B2:Hid (Wd V ln lA lk lc last):=Zd (cb.below c8);have v0:=b0.below c8 b0.lt;have v1:=b1.below c8 b1.lt;have v2:=b2.below c8 b2.lt;have v3:=b3.below c8 b3.lt;have r0:Hid (gl<ga):=Zd (by rw[<- f6];exact b3.lt);have s3:Hid (Kept (λk=>k=go \/ k ∈ L0.map RZ.g \/ k=gr \/ k=gn \/ k=gl) W0 V):=Zd (hK.below c8);have C2:Hid (ga<V.heap.size):=Zd (by rw[sV];omega);have p4:Hid (W0.heap.size<=ga):=Zd (by rw[<- f6];exact hK.size);rw[f6]at qa;replace f6:=Zd f6;replace v0:=Zd v0;replace v1:=Zd v1;replace v2:=Zd v2;replace v3:=Zd v3;replace hE:=Zd hE;replace bG:=Zd bG;replace dC:=Zd dC;replace aW:=Zd aW;clear eQ cb hK b1 b2 b3 b0 kW kB sV c8;replace qa:=Zd qa;go_wp2_with fail;rw[f6.out];(try rw[hV]);clear hV c1 x0
  go_loopg [45] (n-r) (λk _ wr=>∃ q:Nat,q+k=n/\r<=q/\Blk wr ga 3 #[.int .i64 q]/\Hid (∀ i,r<=i->i<q->Zaf (L2.map RZ.q) i c=0)/\Kept (λk=>k=ga) V wr)
  case atStart=>exact⟨r,by omega,Qa _,qa.out,Zd (λi h1 h2=>by omega),Qm _ _⟩
  case round =>
   obtain⟨q,C5,p5,d0,n8,a4⟩:=hrel;have B3:=r0.out;have a6:∀ k,k=ga->∃ t cs,Blk V k t cs/\NoLimb cs:=λk hk=>⟨_,_,(hk▸qa.out:Blk V k 3 #[.int .i64 r]),Zfo (λx=>by simp)⟩;have w0:=a4.blk v0.out Gk;have d6:=a4.blk v1.out Gk;have d8:=a4.blk v2.out Gk;have e5:=a4.blk v3.out Gk;have b7:MatZ 150 39 wr go L2:=A2.out.keptG a4 (λh=>by have:=e4 go (.inl rfl);omega) (λs hs h=>by have:=e4 s.g (.inr (aW.out _ (List.mem_map.2 ⟨s,hs,rfl⟩)));omega) a6;have e0:Wd wr ln lA lk lc last:=a4.wd B2.out a6;have o0:Hid (Kept (λk=>k=go \/ k ∈ L0.map RZ.g \/ k=gr \/ k=gn \/ k=gl) W0 wr):=Zd (s3.out.and a4 (λk hk h=>by have:=p4.out;omega));obtain⟨x0,-,-,-⟩:=w0.two;have cq:wr.cell? ⟨ga,0,none⟩=some (.int .i64 q):=by rw[d0.cell];rfl
   have zq:=d0.frozen 0;have c1:wr.cell? ⟨gr,0,none⟩=some (.int .i64 r):=by rw[d6.cell];rfl
   cases gk with
   | zero =>
    obtain rfl:q=n:=Gk;have t3:decide ((q:Int)<(q:Int))=false:=Gh;have t4:((q:Int) == (q:Int))=true:=Gh
    have hp:Zbt (λi=>Zaf (L2.map RZ.q) i c == 0) (L2.map RZ.q).length (L2.map RZ.q).length r=q:=by
     rw[I.out];exact Zml Gk p5 (Qa _) (λi h1 h2=>by rw[n8.out i h1 h2];rfl) (λh=>by omega)
    have dN:=Zd ((Zmy (f:=j) (ng:=ng) (last:=last) j4.out hp I.out.symm).symm.trans hE.out);have h7:=Zd (Zs4 bG.out j4.out hp I.out.symm);have g7:Hid (cols-(c+1)=j):=Zd (by have:=hj.out;omega);replace hp:=Zd hp;replace b7:=Zd b7;replace e0:=Zd e0;replace d6:=Zd d6;replace d8:=Zd d8;replace e5:=Zd e5;clear a4 a6;go_wp2_with fail
    go_step3
    refine⟨rfl,?_⟩;refine⟨⟨c+1,r,ng,last,ln,lA,lk,lc,L2,Zmq rfl rfl rfl rfl rfl rfl rfl (by first|rfl|(show Value.int .i64 _=_;congr 1)) ⟨by omega,by omega,d6.out,d8.out,e5.out,e0.out,b7.out,dC.out,aW.out,by rw[g7.out];exact dN.out,by rw[g7.out];exact h7.out,o0.out⟩⟩,?_⟩;simp[colOf];omega
   | succ gk' =>
    obtain rfl:gk'=n-(q+1):=Gk;have e7:q<n:=Gk;have t3:decide ((q:Int)<(n:Int))=true:=Gv Gk;have bq:(q:Int)<(n:Int):=Gk;obtain⟨x,hx⟩:=Zb5 (L:=L2) (i:=q) (by rw[dC.out];exact e7)
    have n0:x.q.length=m:=by
     have:=i6.out.1.1 q (by rw[I.out];exact e7);rw[QC,hx]at this;exact this
    obtain⟨cx,zx⟩:=b7.cell hx;obtain⟨fx,-⟩:=b7.row hx;rw[n0]at cx;have bc:(c:Int)<(m:Int):=Gk;obtain⟨n1,A1,k1,r8,p0,p1,i3⟩:=fx.at_ (i:=c) (by rw[n0];omega);have C4:k1<=4096:=i3.2.1;have j0:Zaf (L2.map RZ.q) q c=x.q[c]?.getD 0:=by rw[Zkp,Zht hx]
    rw[<- j0]at i3
    have i0:k1=0 ↔ Zaf (L2.map RZ.q) q c=0:=by
     have h1:=i3.lim.len;have h2:=length_digits_pos (v:=(Zaf (L2.map RZ.q) q c).natAbs);omega
    have hZ:=Zd (λW1=>Zxp n1 A1 k1 r8 W1 Gk ((k1:Int) == 0) rfl);by_cases hz:k1=0
    case pos =>
     have t4:((k1:Int) == 0)=true:=by simp[hz]
     rw[t4]at hZ;have j6:=i0.1 hz
     have q7:Hid (∀ i,r<=i->i<q+1->Zaf (L2.map RZ.q) i c=0):=Zd (λi h1 h2=>by
      by_cases hi:i=q;rw[hi];exact j6;exact n8.out i h1 Gk)
     replace hz:=Zd hz;replace b7:=Zd b7;replace e0:=Zd e0;clear j6 i3 fx zx j0 n0 hx i0 d6 d8 e5;go_wp2_with fail;refine(hZ.out _).mono ?_;rintro e w5 ⟨rfl,o⟩;have i5:=Zc o cq;have C1:=Zo o cq zq;have i2:=(d0.below o d0.lt).set_ 0 (.int .i64 ((q:Int)+1));have i1:=(a4.below o).set_ (p:=⟨ga,0,none⟩) (.inl rfl) (.int .i64 ((q:Int)+1));replace i2:=Zd i2;replace i1:=Zd i1;clear a4 d0 a6;go_wp2_with fail
     go_roundg (n-(q+1))
     case measure=>omega
     case rel=>exact⟨q+1,by omega,by omega,i2.out,q7,i1.out⟩
    have t4:((k1:Int) == 0)=false:=by simp;omega
    rw[t4]at hZ;have n7:Zaf (L2.map RZ.q) q c≠0:=λe=>hz (i0.2 e);have t5:((q:Int) == (n:Int))=false:=beq_eq_false_iff_ne.2 Gk;have C7:decide (q=n)=false:=Gu Gk
    have hp:Zbt (λi=>Zaf (L2.map RZ.q) i c == 0) (L2.map RZ.q).length (L2.map RZ.q).length r=q:=by
     rw[I.out];exact Zml Gk p5 Gk (λi h1 h2=>by rw[n8.out i h1 h2];rfl) (λ_=>by simpa using n7)
    have dN:=Zd ((Zne (f:=j) (ng:=ng) (last:=last) j4.out hp (by rw[I.out];omega)).symm.trans hE.out);have h7:=Zd (Zs1 bG.out j4.out hp (by rw[I.out];omega));obtain⟨L3,d7⟩:=Gz (Zag L2 q r);have g4:L3.map RZ.q=Zag (L2.map RZ.q) q r:=by rw[<- d7];exact Zle _ _ _ _
    have c0:Hid (L3.length=n):=Zd (by rw[<- d7,Zef];exact dC.out);have k7:=Zd g4
    have e8:Hid (∀ i,i<n->(Za1 L3 i).length=m):=Zd (λi hi=>by
     rw[Zk1,g4,Zd1 (by rw[I.out];exact e7) (by rw[I.out];exact J)];exact i6.out.1.1 _ (by rw[I.out];exact Zhy e7 J hi))
    have i7:Hid (∀ (i t:Nat),((Za1 L3 i)[t]?.getD 0).natAbs<pw 200):=Zd (λi t=>by
     rw[<- Zkp,g4,Zh8 (by rw[I.out];exact e7) (by rw[I.out];exact J)];exact i6.out.1.2 _ _)
    have r2:Hid ((Za1 L3 r)[c]?.getD 0=Zaf (L2.map RZ.q) q c):=Zd (by
     rw[<- Zkp,g4,Zh8 (by rw[I.out];exact e7) (by rw[I.out];exact J),Zue])
    have j1:Hid (∀ g ∈ L3.map RZ.g,g ∈ L0.map RZ.g):=Zd (λg hg=>by
     rw[<- d7,Zle]at hg;exact aW.out g (Zi8 _ _ _ _ hg))
    have j2:=Zd (λ(W1:World) (h1:Blk W1 gg 152 #[.slice (some ⟨go,0,none⟩) n cap,vby]) (h2:Blk W1 gr 3 #[.int .i64 r]) (h3:Blk W1 ga 3 #[.int .i64 q]) (h4:Blk W1 gn 4 #[.bool ng]) (h5:MatZ 150 39 W1 go L2) (a3:q≠r) =>
     Z1o gg gr ga gn go n cap q r ng vby L2 W1 h1 h2 h3 h4 h5 dC.out e7 J a3 (by have:=e4 go (.inl rfl);omega))
    rw[d7]at j2;replace hz:=Zd hz;replace n7:=Zd n7;replace hp:=Zd hp;replace i0:=Zd i0;replace j0:=Zd j0;have br:(r:Int)<(n:Int):=Gk;clear g4 fx i3;go_wp2_with fail;refine(hZ.out _).mono ?_;rintro e w5 ⟨rfl,o⟩;clear p0 p1 cx zx;have y0:=w0.below o w0.lt;have y1:=d6.below o d6.lt;have y2:=d8.below o d8.lt;have y3:=e5.below o e5.lt;have ya:=d0.below o d0.lt;have a2:=b7.below o;have f7:=e0.below o;have j5:Hid (Kept (λk=>k=go \/ k ∈ L0.map RZ.g \/ k=gr \/ k=gn \/ k=gl) W0 w5):=Zd (o0.out.below o);have n2:=Zc o x0;have i5:=Zc o cq;have n6:=Zc o c1;clear x0 cq c1 w0 d6 d8 e5 d0 b7 e0 a4 a6 o0 zq o;rcases Classical.em (q=r)with a3|a3
    all_goals
     first
     | have j6:q=r:=a3
       have t6:((q:Int) == (r:Int))=true:=beq_iff_eq.2 Gk;have w9:((q:Int) != (r:Int))=false:=by rw[bne,t6];rfl
       have t7:decide (q=r)=true:=Gv a3;obtain⟨ngz,Y⟩:∃ b:Bool,b=ng:=⟨_,rfl⟩;rw[<- Y]at y2;have r3:Hid ((ng != decide (q≠r))=ngz):=Zd (by rw[Y,Gu (by omega:¬ q≠r)];cases ng <;> rfl);replace Y:=Zd Y;have p8:L2=L3:=by rw[<- d7,a3];exact(Ztp _ _).symm
       rw[p8]at a2;clear p8 d7 j2 j6;replace a3:=Zd a3;obtain⟨wz,n9⟩:∃ x:World,x=w5:=⟨_,rfl⟩;subst n9
     | have t6:((q:Int) == (r:Int))=false:=beq_eq_false_iff_ne.2 Gk
       have w9:((q:Int) != (r:Int))=true:=by rw[bne,t6];rfl
       have t7:decide (q=r)=false:=Gu a3;obtain⟨ngz,Y⟩:∃ b:Bool,b=!ng:=⟨_,rfl⟩;have r3:Hid ((ng != decide (q≠r))=ngz):=Zd (by rw[Y,Gv (by omega:q≠r)];cases ng <;> rfl);have hC:=Zd (j2.out w5 y0 y1 ya y2 a2 a3)
       have g6:∀ k,(k=go \/ k=gn)->∃ t cs,Blk w5 k t cs/\NoLimb cs:=λk hk=>by
        rcases hk with rfl|rfl;exact a2.boxes _ (.inl rfl);exact⟨_,_,y2,Zfo (λx=>by simp)⟩
       replace g6:=Zd g6;replace y0:=Zd y0;replace y1:=Zd y1;replace y3:=Zd y3;replace f7:=Zd f7;clear a2 ya y2 d7 j2;replace a3:=Zd a3;replace Y:=Zd Y;go_wp2_with fail;refine hC.out.mono ?_;rintro e w6 ⟨rfl,p9,y2,d5⟩;have B4:=e4 go (.inl rfl);have a2:=p9;replace y0:=d5.blk y0.out Gk;replace y1:=d5.blk y1.out Gk;replace y3:=d5.blk y3.out Gk;replace f7:=d5.wd f7.out g6.out;replace j5:Hid (Kept (λk=>k=go \/ k ∈ L0.map RZ.g \/ k=gr \/ k=gn \/ k=gl) W0 w6):=Zd (j5.out.and d5 (λk _ h=>by rcases h with h|h <;> simp[h]));clear p9 d5 hC n2 n6 i5;have ya:True:=trivial;have i5:True:=trivial;obtain⟨n2,-,-,-⟩:=y0.two;have n6:w6.cell? ⟨gr,0,none⟩=some (.int .i64 r):=by rw[y1.cell];rfl
       rw[<- Y.out]at y2;obtain⟨wz,n9⟩:∃ x:World,x=w6:=⟨_,rfl⟩;subst n9
    all_goals
     obtain⟨y,hy⟩:=Zb5 (L:=L3) (i:=r) (by rw[c0.out];exact J);have o6:y.q.length=m:=by rw[<- Zht hy];exact e8.out r J
     obtain⟨cy,-⟩:=a2.cell hy;obtain⟨fy,-⟩:=a2.row hy;rw[o6]at cy;obtain⟨pn,pA,pk,pc,p0,p1,m3⟩:=fy.at_ (i:=c) (by rw[o6];omega);rw[<- Zht hy]at m3;obtain⟨gp,h6⟩:=Gz wz.heap.size;obtain⟨Wp,o9,b6,qp,kW,kB,sP⟩:=Zq 39 #[.bool pn,.slice pA pk pc] (Qc wz.heap.size wz) (Qa _);have m4:Hid (MatZ 150 39 Wp go L3):=Zd (a2.below b6);have A7:Hid (Wd Wp ln lA lk lc last):=Zd (f7.below b6);have s7:Hid (Wd Wp pn pA pk pc ((Za1 L3 r)[c]?.getD 0)):=Zd (m3.below b6);have p7:Hid (Blk Wp gg 152 #[.slice (some ⟨go,0,none⟩) n cap,vby]):=Zd (y0.below b6 y0.lt);have x9:Hid (Blk Wp gr 3 #[.int .i64 r]):=Zd (y1.below b6 y1.lt);have v8:Hid (Blk Wp gn 4 #[.bool ngz]):=Zd (y2.below b6 y2.lt);have x4:Hid (Blk Wp gl 39 #[.bool ln,.slice lA lk lc]):=Zd (y3.below b6 y3.lt);have w3:Hid (Kept (λk=>k=go \/ k ∈ L0.map RZ.g \/ k=gr \/ k=gn \/ k=gl) W0 Wp):=Zd (j5.out.below b6);have k9:Hid (gl<gp):=Zd (by rw[<- h6];exact y3.lt);rw[h6]at qp;have υ7:=Zd qp;replace h6:=Zd h6;have O:Hid (∀ k,gg<=k->k ∉ L3.map RZ.g):=Zd (λk hk hm=>by have:=e4 k (.inr (j1.out k hm));omega);obtain⟨s4,-,-,-⟩:=p7.out.two;clear a2 f7 y0 y1 y2 y3 ya fy m3 qp kW kB sP j5 b6;go_wp2_with fail;(try rw[h6.out]);(try rw[o9]);clear o9 cy p0 p1 n2 i5 n6 s4;have g5:Hid (∀ k,k ∈ L3.map RZ.g->∃ t cs,Blk Wp k t cs/\NoLimb cs):=Zd (λk hk=>m4.out.boxes k (.inr hk));have B6:Hid (go ∉ L3.map RZ.g):=Zd (List.nodup_cons.1 m4.out.2.2).1
     go_loopg [72] n (λk iv wr=>∃ (i:Nat) (L4:List RZ),i+k=n/\iv=.int .i64 i/\MatZ 150 39 wr go L4/\Hid (L4.length=n)/\Hid (L4.map RZ.g=L3.map RZ.g)/\Hid (ClzTo L3 L4 r c last i)/\Kept (λk=>k ∈ L3.map RZ.g) Wp wr)
     case atStart=>exact⟨0,L3,by omega,rfl,m4.out,c0,Zd rfl,Zd (λj hj=>by rw[Gx (Or.inr (QE j))]),Qm _ _⟩
     case round =>
      obtain⟨i,L4,C6,rfl,a9,b4,f9,i4,T⟩:=hrel;have b0:=T.blk p7.out (O.out gg (Qa _));have b1:=T.blk x9.out (O.out gr Gk);have b2:=T.blk v8.out (O.out gn Gk);have b3:=T.blk x4.out (O.out gl Gk);have bp:=T.blk υ7.out (O.out gp (by have:=k9.out;omega));have c7:Wd wr pn pA pk pc ((Za1 L3 r)[c]?.getD 0):=T.wd s7.out g5.out;have cb:Wd wr ln lA lk lc last:=T.wd A7.out g5.out;obtain⟨x0,-,-,-⟩:=b0.two;have c1:wr.cell? ⟨gr,0,none⟩=some (.int .i64 r):=by rw[b1.cell];rfl
      have z1:=b1.frozen 0;obtain⟨l0,l1,v7,r9⟩:=b3.two;obtain⟨s0,s1,υ8,v9⟩:=bp.two;cases gk with
      | zero =>
       obtain rfl:i=n:=Gk;have t8:decide ((i:Int)<(i:Int))=false:=Gh;have m9:L4.map RZ.q=Zdx (L3.map RZ.q) r c last:=ClzTo.done (by rw[c0.out];exact i4.out) (by rw[b4.out,c0.out]);obtain⟨X,hX,cu,q4,st⟩:=Zaz (B:=gl) pn pA pk pc (Qc gl wr) (Qa gl) b3;have m1:Blk X gr 3 #[.int .i64 r]:=by rw[<- hX];exact(b1.far d3 _).far d3 _
       have m2:Blk X gn 4 #[.bool ngz]:=by rw[<- hX];exact(b2.far d4 _).far d4 _
       have C3:X.cell? ⟨gr,0,none⟩=some (.int .i64 r):=by rw[m1.cell];rfl
       have C0:=m1.frozen 0
       have dy:Kept (λk=>k=gl \/ k=gr) wr (X.setCell ⟨gr,0,none⟩ (.int .i64 ((r:Int)+1))):=by
        rw[<- hX];exact(((Qm _ wr).set_ (p:=⟨gl,0,none⟩) (.inl (.inl rfl)) _).set_ (p:=⟨gl,1,none⟩) (.inl (.inl rfl)) _).set_ (p:=⟨gr,0,none⟩) (.inl (.inr rfl)) _
       have C:∀ k,(k=gl \/ k=gr)->∃ t cs,Blk wr k t cs/\NoLimb cs:=λk hk=>by
        rcases hk with rfl|rfl;exact⟨_,_,b3,Zgl _ _ _ _⟩;exact⟨_,_,b1,Zfo (λx=>by simp)⟩
       have ew:Hid (MatZ 150 39 (X.setCell ⟨gr,0,none⟩ (.int .i64 ((r:Int)+1))) go L4):=Zd (a9.keptG dy (λh=>by have:=e4 go (.inl rfl);omega) (λs hs h=>by
        have h1:s.g ∈ L3.map RZ.g:=by rw[<- f9.out];exact List.mem_map.2 ⟨s,hs,rfl⟩
        have:=e4 s.g (.inr (j1.out _ h1));omega) C)
       have ez:Hid (Wd (X.setCell ⟨gr,0,none⟩ (.int .i64 ((r:Int)+1))) pn pA pk pc ((Za1 L3 r)[c]?.getD 0)):=Zd (dy.wd c7 C);have A8:Hid (Blk (X.setCell ⟨gr,0,none⟩ (.int .i64 ((r:Int)+1))) gr 3 #[.int .i64 ((r:Int)+1)]):=Zd (m1.set_ 0 _);have υ9:Hid (Blk (X.setCell ⟨gr,0,none⟩ (.int .i64 ((r:Int)+1))) gn 4 #[.bool ngz]):=Zd (m2.far (p:=⟨gr,0,none⟩) (Ne.symm d1) _);have s9:Hid (Blk (X.setCell ⟨gr,0,none⟩ (.int .i64 ((r:Int)+1))) gl 39 #[.bool pn,.slice pA pk pc]):=Zd (q4.far (p:=⟨gr,0,none⟩) (Ne.symm d3) _);have v6:Hid (Kept (λk=>k=go \/ k ∈ L0.map RZ.g \/ k=gr \/ k=gn \/ k=gl) W0 (X.setCell ⟨gr,0,none⟩ (.int .i64 ((r:Int)+1)))):=Zd ((w3.out.and T (λk _ h=>.inr (.inl (j1.out k h)))).and dy (λk _ h=>by rcases h with h|h <;> simp[h]));have z5:Hid (Zas j (c+1) (r+1) (L4.map RZ.q) ngz ((Za1 L3 r)[c]?.getD 0)=FIN):=Zd (by rw[m9,k7.out,r2.out,<- r3.out];exact dN.out);have o5:Hid (okZ (pw 200) m j (c+1) (r+1) (L4.map RZ.q) ((Za1 L3 r)[c]?.getD 0)):=Zd (by rw[m9,k7.out,r2.out];exact h7.out);have g7:Hid (cols-(c+1)=j):=Zd (by have:=hj.out;omega);have B1:Hid (∀ g ∈ L4.map RZ.g,g ∈ L0.map RZ.g):=Zd (λg hg=>j1.out g (by rw[<- f9.out];exact hg));clear a9 T b0 b1 b2 b3 bp c7 cb q4 m1 m2 dy C m9 st cu;go_wp2_with fail;(try rw[hX]);go_wp2_with fail
       go_step3
       refine⟨rfl,?_⟩;refine⟨⟨c+1,r+1,ngz,_,pn,pA,pk,pc,L4,Zmq rfl rfl rfl rfl rfl rfl rfl (by first|rfl|(show Value.int .i64 _=_;congr 1)) ⟨by omega,by omega,A8.out,υ9.out,s9.out,ez.out,ew.out,b4.out,B1.out,by rw[g7.out];exact z5.out,by rw[g7.out];exact o5.out,v6.out⟩⟩,?_⟩;simp[colOf];omega
      | succ gk' =>
       obtain rfl:gk'=n-(i+1):=Gk;have a5:i<n:=Gk;have t8:decide ((i:Int)<(n:Int))=true:=Gv Gk;have bi:(i:Int)<(n:Int):=Gk;obtain⟨ri,f8⟩:=Zb5 (L:=L4) (i:=i) (by rw[b4.out];exact a5);obtain⟨ci,zi⟩:=a9.cell f8;obtain⟨rr,i9⟩:=Zb5 (L:=L4) (i:=r) (by rw[b4.out];exact J);obtain⟨cr,zr⟩:=a9.cell i9
       have l2:rr.q=Za1 L3 r:=by
        have:=i4.out r (by rw[c0.out];exact J);rw[Zht i9,Gx (QG (Qa r))]at this;exact this
       have m7:rr.q.length=m:=by rw[l2];exact e8.out r J
       rw[m7]at cr;by_cases b8:i<=r
       case pos =>
        have t9:decide ((i:Int)<=(r:Int))=true:=Gv Gk;have y7:decide (i<=r)=true:=Gv b8;have q5:Hid (ClzTo L3 L4 r c last (i+1)):=Zd (i4.out.pass b8);replace a9:=Zd a9;replace T:=Zd T;replace b8:=Zd b8;clear b0 b1 b2 b3 bp c7 cb;go_wp2_with fail
        go_roundg (n-(i+1))
        case measure=>omega
        case rel=>exact⟨i+1,L4,by omega,by go_num,a9.out,b4,f9,q5,T.out⟩
       have t9:decide ((i:Int)<=(r:Int))=false:=Gu Gk;have y7:decide (i<=r)=false:=Gu b8
       have m6:ri.q=Za1 L3 i:=by
        have:=i4.out i (by rw[c0.out];exact a5);rw[Zht f8,Gx (Or.inr (Qa i))]at this;exact this
       have m5:ri.q.length=m:=by rw[m6];exact e8.out i a5
       rw[m5]at ci;obtain⟨fi,-⟩:=a9.row f8;obtain⟨h8,hA,hk,g8,p0,p1,g2⟩:=fi.at_ (i:=c) (by rw[m5];omega);rw[m6]at g2;obtain⟨gh,g9⟩:=Gz wr.heap.size;obtain⟨Wh,r4,a8,qh,kW,kB,sh⟩:=Zq 39 #[.bool h8,.slice hA hk g8] (Qc wr.heap.size wr) (Qa _);have r5:Hid (MatZ 150 39 Wh go L4):=Zd (a9.below a8);have p6:Hid (Wd Wh h8 hA hk g8 ((Za1 L3 i)[c]?.getD 0)):=Zd (g2.below a8);have o7:Hid (Wd Wh pn pA pk pc ((Za1 L3 r)[c]?.getD 0)):=Zd (c7.below a8);have r1:Hid (Wd Wh ln lA lk lc last):=Zd (cb.below a8);have s8:Hid (Blk Wh gg 152 #[.slice (some ⟨go,0,none⟩) n cap,vby]):=Zd (b0.below a8 b0.lt);have x5:Hid (Blk Wh gr 3 #[.int .i64 r]):=Zd (b1.below a8 b1.lt);have x3:Hid (Blk Wh gl 39 #[.bool ln,.slice lA lk lc]):=Zd (b3.below a8 b3.lt);have bph:Hid (Blk Wh gp 39 #[.bool pn,.slice pA pk pc]):=Zd (bp.below a8 bp.lt);have z6:Hid (Kept (λk=>k ∈ L3.map RZ.g) Wp Wh):=Zd (T.below a8);have o8:Hid (gl<gh):=Zd (by rw[<- g9];exact b3.lt);rw[g9]at qh;replace qh:=Zd qh;replace g9:=Zd g9;have e6:Hid (∀ k,k ∈ L3.map RZ.g->∃ t cs,Blk Wh k t cs/\NoLimb cs):=Zd (λk hk=>r5.out.boxes k (.inr (by rw[f9.out];exact hk)));replace b8:=Zd b8;clear a9 T b0 b1 b2 b3 bp c7 cb g2 fi kW kB sh a8 zi zr cr;go_wp2_with fail;(try rw[g9.out]);(try rw[r4]);clear r4 p0 p1 ci x0 c1 z1 l0 l1 v7 r9 s0 s1 υ8 v9
       go_loopg [86] m (λk iv wr=>∃ (t:Nat) (q3:List Int),t+k=m/\iv=.int .i64 t/\MatZ 150 39 wr go (L4.set i ⟨ri.g,q3⟩)/\Hid (q3.length=m)/\Hid (∀ s,q3[s]?.getD 0=if s<t then Qw ((Za1 L3 i)[s]?.getD 0*(Za1 L3 r)[c]?.getD 0-(Za1 L3 i)[c]?.getD 0*(Za1 L3 r)[s]?.getD 0) last else (Za1 L3 i)[s]?.getD 0)/\Kept (λk=>k ∈ L3.map RZ.g) Wh wr)
       case atStart =>
        refine⟨0,ri.q,by omega,rfl,?_,Zd m5,Zd (λs=>by rw[Gw (QH s),m6]),Qm _ _⟩
        have e:L4.set i ⟨ri.g,ri.q⟩=L4:=by
         apply Qt;intro t;rw[Qe]
         split
         rename_i h;subst h;rw[Gx (by rw[b4.out];exact a5),f8];rfl
        rw[e];exact r5.out
       case round =>
        obtain⟨t,q3,B8,rfl,a7,c6,m8,U⟩:=hrel;cases gk with
        | zero =>
         obtain rfl:t=m:=Gk;have A3:decide ((t:Int)<(t:Int))=false:=Gh
         have d9:Hid ((L4.set i ⟨ri.g,q3⟩).length=n/\(L4.set i ⟨ri.g,q3⟩).map RZ.g=L3.map RZ.g/\ClzTo L3 (L4.set i ⟨ri.g,q3⟩) r c last (i+1)):=Zd (by
          refine⟨by rw[Qo];exact b4.out,?_,?_⟩;rw[Ze2 (s:=⟨ri.g,q3⟩) f8 rfl];exact f9.out;have l7:=b8.out;refine i4.out.step (by rw[b4.out,c0.out]) (by rw[c0.out];exact a5) Gk ?_;refine rowZ_eq (by rw[c6.out,e8.out i a5]) (λs=>?_);rw[m8.out s,e8.out i a5])
         have d5:Hid (Kept (λk=>k ∈ L3.map RZ.g) Wp wr):=Zd (z6.out.trans U);replace a7:=Zd a7;clear U;go_wp2_with fail
         go_roundg (n-(i+1))
         case measure=>omega
         case rel=>exact⟨i+1,_,by omega,by go_num,a7.out,Zd d9.out.1,Zd d9.out.2.1,Zd d9.out.2.2,d5.out⟩
        | succ gk3 =>
         obtain rfl:gk3=m-(t+1):=Gk;have i8:t<m:=Gk;have A3:decide ((t:Int)<(m:Int))=true:=Gv Gk;have bt:(t:Int)<(m:Int):=Gk;have b0:=U.blk s8.out (O.out gg (Qa _));have b1:=U.blk x5.out (O.out gr Gk);have b3:=U.blk x3.out (O.out gl Gk);have bp:=U.blk bph.out (O.out gp (by have:=k9.out;omega));have bh:=U.blk qh.out (O.out gh (by have:=o8.out;omega));have c7:Wd wr pn pA pk pc ((Za1 L3 r)[c]?.getD 0):=U.wd o7.out e6.out;have g2:Wd wr h8 hA hk g8 ((Za1 L3 i)[c]?.getD 0):=U.wd p6.out e6.out;have cb:Wd wr ln lA lk lc last:=U.wd r1.out e6.out;have l7:=b8.out;obtain⟨cr,-⟩:=a7.cell (i:=r) (r:=rr) (by rw[Qe,Gw Gk];exact i9);rw[m7]at cr;obtain⟨f3,-⟩:=a7.row (i:=i) (r:=⟨ri.g,q3⟩) (by rw[Qe,Gx rfl,Gx (by rw[b4.out];exact a5)]);obtain⟨f4,-⟩:=a7.row (i:=r) (r:=rr) (by rw[Qe,Gw Gk];exact i9);obtain⟨n4,A4,k4,c4,q8,p2,n3⟩:=f4.at_ (i:=t) (by rw[m7];exact i8);rw[l2]at n3;obtain⟨n5,A5,k5,c5,υ0,υ1,l9⟩:=f3.at_ (i:=t) (by rw[show RZ.q ⟨ri.g,q3⟩=q3 from rfl,c6.out];exact i8)
         have k6:q3[t]?.getD 0=(Za1 L3 i)[t]?.getD 0:=by
          have h1:=m8.out t;rw[Gw Gk]at h1;exact h1
         simp only[k6]at l9;have p3:=f3.frozen (t*2);have o4:=f3.frozen (t*2+1);obtain⟨x0,-,-,-⟩:=b0.two;have c1:wr.cell? ⟨gr,0,none⟩=some (.int .i64 r):=by rw[b1.cell];rfl
         obtain⟨l0,l1,-,-⟩:=b3.two;obtain⟨s0,s1,-,-⟩:=bp.two;obtain⟨h0,h1,-,-⟩:=bh.two;have j7:((Za1 L3 i)[t]?.getD 0*(Za1 L3 r)[c]?.getD 0).natAbs<pw 400:=Zjk (i7.out i t) (i7.out r c);have j8:((Za1 L3 i)[c]?.getD 0*(Za1 L3 r)[t]?.getD 0).natAbs<pw 400:=Zjk (i7.out i c) (i7.out r t);have z8:Hid (((Za1 L3 i)[t]?.getD 0*(Za1 L3 r)[c]?.getD 0-(Za1 L3 i)[c]?.getD 0*(Za1 L3 r)[t]?.getD 0).natAbs<pw 4096):=Zd (Qd (Zt9 j7 j8) (Zca Gj));replace j7:=Zd (Qd j7 (Zca (by decide:400<=4096)));replace j8:=Zd (Qd j8 (Zca (by decide:400<=4096)));have z9:Hid (last≠0):=Zd i6.out.2.1;replace a7:=Zd a7;replace U:=Zd U;clear f4 f3 b0 b1 b3 bp bh k6 l7;go_wp2_with fail
         have a1:Hid (∀ wx,Below wr.heap.size wr wx->wx.cell? ⟨ri.g,t*2,none⟩=some (.bool n5)/\wx.cell? ⟨ri.g,t*2+1,none⟩=some (.slice A5 k5 c5)/\wx.cell? ⟨gp,0,none⟩=some (.bool pn)/\wx.cell? ⟨gp,1,none⟩=some (.slice pA pk pc)/\wx.cell? ⟨gh,0,none⟩=some (.bool h8)/\wx.cell? ⟨gh,1,none⟩=some (.slice hA hk g8)/\wx.cell? ⟨gg,0,none⟩=some (.slice (some ⟨go,0,none⟩) n cap)/\wx.cell? ⟨gr,0,none⟩=some (.int .i64 r)/\wx.cell? ⟨go,r,none⟩=some (.slice (some ⟨rr.g,0,none⟩) m m)/\wx.cell? ⟨rr.g,t*2,none⟩=some (.bool n4)/\wx.cell? ⟨rr.g,t*2+1,none⟩=some (.slice A4 k4 c4)/\wx.cell? ⟨gl,0,none⟩=some (.bool ln)/\wx.cell? ⟨gl,1,none⟩=some (.slice lA lk lc)):=Zd (λwx C=>⟨Zc C υ0,Zc C υ1,Zc C s0,Zc C s1,Zc C h0,Zc C h1,Zc C x0,Zc C c1,Zc C cr,Zc C q8,Zc C p2,Zc C l0,Zc C l1⟩);have c9:Below wr.heap.size wr wr.drew:=Zh (Qc _ _) 1;refine wp_heldS [22] hmx a1 c9 (λhxs9=>?_);refine Zgo 2 [0,1] rfl Gi (a1.out _ c9) ?_
         iterate 2 (refine tk1 (v:=?_) rfl (QG ⟨by kernel_rfl,?_⟩) ?_;rotate_left;(· intro W2 _;go_simp;try with_reducible rfl);try simp only[Qb,Zg9,Zgn,Zg3,Gr,Gq,Gp])
         refine tk0 ?_;refine Zkb 15 [2,3,4,5,6,8,9,10,11,12,13,14,15,16,19] rfl Gi (a1.out _ c9) ?_
         iterate 15 (refine tk1 (v:=?_) rfl (QG ⟨by kernel_rfl,?_⟩) ?_;rotate_left;(· intro W2 hSw;(try dsimp only at hSw);go_simp;try with_reducible rfl);try simp only[Qb,Zg9,Zgn,Zg3,Gr,Gq,Gp])
         refine tk0 ?_;refine wpAnyL_o 7 λK hK=>?_;go_simp;refine(Zik n5 pn A5 pA k5 c5 pk pc _ _ wr.drew (l9.below c9) (c7.below c9) j7.out).mono ?_;rintro e s6 ⟨l5,υ5,s2,A9,v4,rfl,k0⟩;have b5:=Gs c9 l5;refine hK.out _ _ (λ_=>a1.out _ b5) ?_;clear hK K
         try simp only[Qb,Zg9,Zgn,Zg3]
         refine wpAnyL_o 17 λK hK=>?_;go_simp;refine(Zik h8 n4 hA A4 hk g8 k4 c4 _ _ s6 (g2.below b5) (n3.below b5) j8.out).mono ?_;rintro e υ4 ⟨h9,υ6,y8,υ2,x6,rfl,k8⟩;have e9:=Gs b5 h9;refine hK.out _ _ (λ_=>a1.out _ e9) ?_;clear hK K
         try simp only[Qb,Zg9,Zgn,Zg3]
         refine wpAnyL_o 18 λK hK=>?_;go_simp;refine(lsub_ok υ5 υ6 s2 y8 A9 v4 υ2 x6 _ _ υ4 (k0.below h9) k8 z8.out).mono ?_;rintro e t0 ⟨j9,υ3,v5,z0,z7,rfl,l4⟩;have b9:=Gs e9 j9;refine hK.out _ _ (λ_=>a1.out _ b9) ?_;clear hK K
         try simp only[Qb,Zg9,Zgn,Zg3]
         refine wpAnyL_o 20 λK hK=>?_;go_simp;refine(Zqa υ3 ln v5 lA z0 z7 lk lc _ _ t0 l4 (cb.below b9) z9.out).mono ?_;rintro e w4 ⟨l3,s5,y6,A0,w2,rfl,l6⟩;have a0:=Gs b9 l3;refine hK.out _ _ (λ_=>a1.out _ a0) ?_;clear hK K
         try simp only[Qb,Zg9,Zgn,Zg3]
         refine Zgo 1 [21] rfl Gi (a1.out _ a0) ?_
         (refine tk1 (v:=?_) rfl (QG ⟨by kernel_rfl,?_⟩) ?_;rotate_left;(· intro W2 _;go_simp;try with_reducible rfl);try simp only[Qb,Zg9,Zgn,Zg3,Gr,Gq,Gp])
         refine tk0 ?_;have a2:=a7.out.below a0;obtain⟨Z9,j3⟩:∃ W,(w4.setCell ⟨ri.g,t*2,none⟩ (.bool s5)).setCell ⟨ri.g,t*2+1,none⟩ (.slice y6 A0 w2)=W:=⟨_,rfl⟩;have o3:ri.g ∈ L3.map RZ.g:=by rw[<- f9.out];exact List.mem_map.2 ⟨ri,List.mem_of_getElem? f8,rfl⟩
         have y5:Hid (Kept (λk=>k ∈ L3.map RZ.g) Wh Z9):=Zd (by rw[<- j3];exact((U.out.below a0).set_ (p:=⟨ri.g,t*2,none⟩) (.inl o3) _).set_ (p:=⟨ri.g,t*2+1,none⟩) (.inl o3) _)
         have y9:Hid (MatZ 150 39 Z9 go (L4.set i ⟨ri.g,q3.set t (Qw ((Za1 L3 i)[t]?.getD 0*(Za1 L3 r)[c]?.getD 0-(Za1 L3 i)[c]?.getD 0*(Za1 L3 r)[t]?.getD 0) last)⟩)):=Zd (by
          have h1:=a2.set_ (i:=i) (r:=⟨ri.g,q3⟩) (by rw[Qe,Gx rfl,Gx (by rw[b4.out];exact a5)]) (k:=t) (by rw[show RZ.q ⟨ri.g,q3⟩=q3 from rfl,c6.out];exact i8) l6;rw[List.set_set]at h1;rw[<- j3];exact h1)
         have f0:=Zo a0 υ0 p3;have f1:=Zo a0 υ1 o4;have g0:=Zc a0 υ0;have g1:=Zc a0 υ1;clear a2;refine Zy (i:=22) rfl Gi Gi (λK hK=>?_);go_simp;(try rw[j3]);refine hK.out _ _ ?_;clear hK K
         try simp only[Qb,Zg9,Zgn,Zg3]
         refine wpAnyL_fin ?_;clear j3 f0 f1 g0 g1 l5 h9 j9 l3 c9 b5 e9 b9 a0 a1 hxs9 υ0 υ1 p3 o4 q8 p2 s0 s1 h0 h1 x0 c1 cr l0 l1 k0 k8 l4 l6 l9 n3 a7 U c7 g2 cb;go_wp2_with fail
         go_roundg (m-(t+1))
         case measure=>omega
         case rel=>exact⟨t+1,_,by omega,by go_num,y9.out,Zd (by rw[Qo];exact c6.out),Zd (Zza (by rw[c6.out,e8.out i a5]) (by rw[e8.out i a5];exact i8) rfl m8.out),y5.out⟩
theorem Zfa{P:Program}{ops:Array Oper}{Q:Exit->Act->World->Prop}{md:Region.Mode}{L:List Nat}{S:World->Prop}{i j:Nat}{oi oj:Oper}{fuel:Nat}{listed:Array Bool}{a:Act}{w:World}(hi:ops[i]?=some oi)(hj:ops[j]?=some oj)(hr:Region.ready md ops listed=[i,j])
    (h1:∀ K':Act->World->Prop,Shut (∀ a w,(Zc0 L (listed.setIfInBounds i true)=true->S w)->Zab P md ops Q L S fuel (listed.setIfInBounds i true) a w->K' a w)->if Region.wanted oi (yielded ops a.tmps)=true then Oper.wp P oi a w K' Q else K' (a.put oi.dst undef) w)
    (h2:∀ K':Act->World->Prop,Shut (∀ a w,(Zc0 L (listed.setIfInBounds j true)=true->S w)->Zab P md ops Q L S fuel (listed.setIfInBounds j true) a w->K' a w)->if Region.wanted oj (yielded ops a.tmps)=true then Oper.wp P oj a w K' Q else K' (a.put oj.dst undef) w) :
    Zab P md ops Q L S (fuel+1) listed a w:=
 ⟨(λh0=>by rw[h0]at hr;cases hr),λk hk=>by
  rw[hr]at hk;rcases List.mem_cons.1 hk with e|e;subst e;exact wpOp_step hi (λK' hK=>h1 K' (λa w hS hW=>hK a w ⟨hS,hW⟩));rw[Qr]at e;subst e;exact wpOp_step hj (λK' hK=>h2 K' (λa w hS hW=>hK a w ⟨hS,hW⟩))⟩
section
variable{P:Program}(w:World)
theorem Zl3(base:Nat)(t ty e:TypeId)(i:TypeInfo)(ht:P.underlying t=some (.slice e))(hi:P.info? e=some i)(hz:i.zero=some (.agg #[.bool false,.slice none 0 0]))
    (hs:i.size=2) (hby:i.bytes=32) (v:Value) (es:List WE) (ai:RowW e w base v es)
    (B:Nat) (A:Option Addr) (m c:Nat) (fs:List WE) (hr:Reads w B 2 A m (Zal fs)) (hm:fs.length=m) (h63:es.length+m<=1000) (hbase:base<=w.heap.size) :
    ∃ v' w',(Builtin.append_ #[t,t] ty #[v,.slice A m c]).run P w=.ok v' w'/\RowW e w' base v' (es++fs)/\w.grownBy w' v.ownBlock/\(v'.ownBlock=v.ownBlock \/ ∀ k,v'.ownBlock=some k->w.heap.size<=k):=by
 rcases Nat.eq_zero_or_pos m with h0|h0
 ·subst h0
  obtain rfl:fs=[]:=List.eq_nil_of_length_eq_zero hm;rw[List.append_nil];rcases A with _|ad;exact⟨v,w,Zci w base t ty e i 2 ht hi v _ _ ai.own c,ai,World.grownBy.refl w _,.inl rfl⟩;exact EV
 obtain⟨ad,rfl,_,hc⟩:=hr.2 h0;have hl:(Zal fs).length=m*i.size:=by rw[Zbg,hm,hs]
 have y:es.length*i.size=(Zal es).length:=by rw[Zbg,hs]
 rcases ai with ⟨rfl,rfl⟩|⟨g,sp,rfl,h2,h3,h4⟩
 ·have f:=run_append_nil (P:=P) w t ty e i _ ht hi hz ad m c (Zal fs) hl hc h0 Gk (by rw[hby];omega)
  have h:=grownCap_ge w m 0 e;have o:=grownCap_le_maxLen w m 0 e (by unfold maxLen;simp only[List.length_nil]at h63;omega);refine⟨_,_,f,.inr ⟨w.heap.size,grownCap w m 0 e-m,?_,hbase,?_,?_⟩,⟨rfl,rfl,rfl,by simp,λk hk _=>Below.heap_alloc w.drew _ k hk⟩,.inr (λk hk=>by first|(simp[Value.ownBlock]at hk;omega)|(cases hk;exact Qa _))⟩;rw[QI,hm,Qk h];rw[QI,hm,Qk h];exact o;have:=heap_alloc_new w.drew (.cells ((Zal fs).toArray++Ql (Value.agg #[.bool false,.slice none 0 0]).cells (grownCap w m 0 e-m)) e);unfold Blk;refine this.trans ?_;congr 1
  have hx:(Zal fs).toArray++Ql (Value.agg #[.bool false,.slice none 0 0]).cells (grownCap w m 0 e-m)=Zbx ([]++fs++Qg (grownCap w m 0 e-m) Zcv):=by
   apply Array.toList_inj.1;rw[Qq,show (Value.agg #[.bool false,.slice none 0 0]).cells=#[.bool false,.slice none 0 0] from rfl,Ziu];simp[Zbx,Zc9]
  rw[hx]
 by_cases hroom:m<=sp
 ·have f:=run_append_room (P:=P) w t ty e i ht hi g es.length (es.length+sp) _ h4 ad m c (Zal fs) hl hc (Zuz fs) Gk (by rw[y,Zbg,Zbg];simp[Zbx,Zbg];omega)
  refine⟨_,_,f,.inr ⟨g,sp-m,?_,h2,?_,?_⟩,⟨rfl,rfl,rfl,by simp[World.setRow],λk _ hk=>setRow_other w g k _ (λe'=>hk (by simp[Value.ownBlock,e']))⟩,.inl rfl⟩;rw[Qi,hm,show es.length+m+(sp-m)=es.length+sp by omega];rw[Qi,hm];omega;refine(setRow_heap w g _ _ e _ h4).trans ?_;congr 2;unfold Zbx;congr 1;rw[y];have I:Qg sp Zcv=Qg m Zcv++Qg (sp-m) Zcv:=by rw[List.replicate_append_replicate];congr 1;omega
  have J:(Zal fs).length=(Zal (Qg m Zcv)).length:=by rw[Zbg,Zbg,hm,List.length_replicate]
  simp only[Zc9];rw[List.take_left,J,<- Qi,I,Zc9,<- QD (Zal es),List.drop_left,QD]
 have C:∀ j u,(Zal es)[j]?=some u->w.cell? ((⟨g,0,none⟩:Addr).add j)=some u:=λj u hu=>by
   rw[Zi,Qz,h4.cell];simp only[Zbx,List.getElem?_toArray,Zc9];exact Fg
 have f:=run_append_grow (P:=P) w t ty e i _ ht hi hz ⟨g,0,none⟩ es.length (es.length+sp) (Zal es) y.symm C ad m c (Zal fs) hl hc Gk Gk (growslice_fits Gk (by rw[hby];omega));have h:=grownCap_ge w (es.length+m) (es.length+sp) e;have o:=grownCap_le_maxLen w (es.length+m) (es.length+sp) e (by unfold maxLen;omega);refine⟨_,_,f,.inr ⟨w.heap.size,grownCap w (es.length+m) (es.length+sp) e-(es.length+m),?_,hbase,?_,?_⟩,⟨rfl,rfl,rfl,by simp,λk hk _=>Below.heap_alloc w.drew _ k hk⟩,.inr (λk hk=>by first|(simp[Value.ownBlock]at hk;omega)|(cases hk;exact Qa _))⟩;rw[Qi,hm,Qk h];rw[Qi,hm,Qk h];exact o;have:=heap_alloc_new w.drew (.cells ((Zal es).toArray++(Zal fs).toArray++Ql (Value.agg #[.bool false,.slice none 0 0]).cells (grownCap w (es.length+m) (es.length+sp) e-(es.length+m))) e);unfold Blk;refine this.trans ?_;congr 1
 have hx:(Zal es).toArray++(Zal fs).toArray++Ql (Value.agg #[.bool false,.slice none 0 0]).cells (grownCap w (es.length+m) (es.length+sp) e-(es.length+m))=Zbx (es++fs++Qg (grownCap w (es.length+m) (es.length+sp) e-(es.length+m)) Zcv):=by
  apply Array.toList_inj.1;rw[Qq,Qq,show (Value.agg #[.bool false,.slice none 0 0]).cells=#[.bool false,.slice none 0 0] from rfl,Ziu];simp[Zbx,Zc9]
 rw[hx]
theorem Zn6{o:Oper}{a:Act}{K:Act->World->Prop}{Q:Exit->Act->World->Prop}(s x:Operand)(t:TypeId)
    (ho:o.op=.call { callee:=.builtin .append,args:=#[s,x],argTypes:=#[t,t] })
    (base:Nat) (e:TypeId) (i:TypeInfo) (ht:P.underlying t=some (.slice e)) (hi:P.info? e=some i) (hz:i.zero=some (.agg #[.bool false,.slice none 0 0])) (hsi:i.size=2) (hby:i.bytes=32)
    (v:Value) (xs:List Int) (hs:a.eval s=v) (hown:OwnP e w base v xs)
    (B:Nat) (A:Option Addr) (m c:Nat) (fs:List WE) (hx:a.eval x=.slice A m c) (hr:Reads w B 2 A m (Zal fs)) (hm:fs.length=m) (hfs:∀ e ∈ fs,Lim w e.A e.n e.c e.l/\e.ok=true)
    (h63:xs.length+m<=1000) (hbase:base<=w.heap.size)
    (h:∀ v' w',OwnP e w' base v' (xs++fs.map WE.num)->w.grownBy w' v.ownBlock->(∀ (A:Option Addr) (n c:Nat) (l:List Nat),Lim w A n c l->Lim w' A n c l)->(v'.ownBlock=v.ownBlock \/ ∀ k,v'.ownBlock=some k->w.heap.size<=k)->K (a.put o.dst v') w'):o.wp P a w K Q:=by
 obtain⟨es,h1,h2,rfl⟩:=hown;rw[Qf]at h63;obtain⟨v',w',f,h3,h4,h5⟩:=Zl3 (P:=P) w base t o.type e i ht hi hz hsi hby v es h1 B A m c fs hr hm h63 hbase;unfold Oper.wp execOp;simp only[ho,resolve,invoke,builtin,Sem.run_bind,Sem.run_pure,Result.andThen_ok,List.map_toArray,List.map_cons,List.map_nil,hs,hx,f];have hk:∀ (A:Option Addr) (n c:Nat) (l:List Nat),Lim w A n c l->Lim w' A n c l:=λ_ _ _ _ hL=>h1.keep h4 hL;refine h v' w' ⟨es++fs,h3,λe he=>?_,by rw[Qp]⟩ h4 hk h5;rcases List.mem_append.1 he with he|he;exact⟨hk _ _ _ _ (h2 e he).1,(h2 e he).2⟩;exact⟨hk _ _ _ _ (hfs e he).1,(hfs e he).2⟩
end
def MatOZ(tS tF:TypeId)(w:World)(base:Nat)(v:Value)(L:List RZ):Prop:=
 RowS tS w base v (L.map RZ.rs)/\(∀ r ∈ L,(POwn tF w r.g r.q/\r.q.length<=maxLen)/\base<=r.g)/\(L.map RZ.g).Nodup
section
variable{tS tF:TypeId}{w w':World}{base:Nat}{v v':Value}{L:List RZ}
theorem MatOZ.nil(tS tF:TypeId)(w:World)(base:Nat):MatOZ tS tF w base (.slice none 0 0) []:=⟨.inl ⟨rfl,rfl⟩,λr hr=>(by cases hr),List.nodup_nil⟩
theorem MatOZ.kept(h:MatOZ tS tF w base v L)(hb:Below w.heap.size w w'):MatOZ tS tF w' base v L:=⟨h.1.kept hb,λr hr=>⟨⟨(h.2.1 r hr).1.1.below hb,(h.2.1 r hr).1.2⟩,(h.2.1 r hr).2⟩,h.2.2⟩
theorem POwn.grown{g:Nat}{qs:List Int}(h:POwn tF w g qs)(hg:w.grownBy w' v.ownBlock)(hne:v.ownBlock≠some g)(hk:∀ (A:Option Addr) (n c:Nat) (l:List Nat),Lim w A n c l->Lim w' A n c l):POwn tF w' g qs:=by
 obtain⟨es,h1,h2,h3⟩:=h;exact⟨es,(hg.block g h1.lt (λe=>hne (by first|exact e|exact e.symm))).trans h1,λe he=>⟨hk _ _ _ _ (h2 e he).1,(h2 e he).2⟩,h3⟩
theorem MatOZ.snoc(h:MatOZ tS tF w base v L)(hne:tS≠tF){r:RZ}(hr:POwn tF w r.g r.q/\r.q.length<=maxLen)(hbr:base<=r.g)(eG:∀ s ∈ L,s.g≠r.g)(h1:RowS tS w' base v' (L.map RZ.rs ++ [r.rs]))(hg:w.grownBy w' v.ownBlock)
    (hk:∀ (A:Option Addr) (n c:Nat) (l:List Nat),Lim w A n c l->Lim w' A n c l):MatOZ tS tF w' base v' (L ++ [r]):=by
 have ow:∀ {s:RZ},POwn tF w s.g s.q->v.ownBlock≠some s.g:=λhs=>by obtain⟨es,q1,-,-⟩:=hs;exact h.1.ownType q1 hne
 exact EO
theorem MatOZ.mat(h:MatOZ tS tF w base v L)(hne:tS≠tF)(hl:L ≠ []):∃ go cap,v=.slice (some ⟨go,0,none⟩) L.length cap/\L.length<=cap/\cap<=maxLen/\base<=go/\MatZ tS tF w go L/\∀ r ∈ L,base<=r.g:=by
 rcases h.1 with ⟨-,h2⟩|⟨go,sp,rfl,h2,h3,h4⟩;exact absurd (List.map_eq_nil_iff.1 h2) hl;refine⟨go,_,by rw[Qf],by rw[Qf];omega,h3,h2,⟨⟨_,h4⟩,λr hr=>(h.2.1 r hr).1,?_⟩,λr hr=>(h.2.1 r hr).2⟩;refine List.nodup_cons.2 ⟨λhm=>?_,h.2.2⟩;obtain⟨r,hr,e⟩:=List.mem_map.1 hm;obtain⟨es,q1,-,-⟩:=(h.2.1 r hr).1.1;rw[e]at q1;exact hne (h4.type q1)
end
section
variable{tS tW t':TypeId}{w:World}{base:Nat}{v:Value}{L:List RZ}{xs:List Int}{rs:List RS}
theorem RowS.isSlice(h:RowS tS w base v rs):∃ A n c,v=.slice A n c:=by
 exact FC
theorem RowS.mono{b:Nat}(h:RowS tS w base v rs)(hb:b<=base):RowS tS w b v rs:=by
 rcases h with h|⟨g,sp,h1,h2,h3⟩;exact .inl h;exact Ij
theorem MatOZ.mono{b:Nat}(h:MatOZ tS tW w base v L)(hb:b<=base):MatOZ tS tW w b v L:=⟨h.1.mono hb,λr hr=>⟨(h.2.1 r hr).1,Qv hb (h.2.1 r hr).2⟩,h.2.2⟩
theorem OwnP.isSlice(h:OwnP tW w base v xs):∃ A n c,v=.slice A n c:=by
 obtain⟨A,c,e,-⟩:=h.poly;exact⟨_,_,_,e⟩
theorem OwnP.mono{b:Nat}(h:OwnP tW w base v xs)(hb:b<=base):OwnP tW w b v xs:=by
 obtain⟨es,h1,h2,h3⟩:=h;refine⟨es,?_,h2,h3⟩;rcases h1 with h|⟨g,sp,h1,h2,h3⟩;exact .inl h;exact Ij
theorem Cn{G:Prop}(h:G:=by
 exact .inr ⟨g',sp,h1,h2,h3,h4.far (p:=⟨g,i,none⟩) (by show g'≠g;omega) u⟩):G:=h
theorem RowS.far{g:Nat}(h:RowS tS w base v rs)(hg:g<base)(i:Nat)(u:Value):RowS tS (w.setCell ⟨g,i,none⟩ u) base v rs:=by
 rcases h with h|⟨g',sp,h1,h2,h3,h4⟩;exact .inl h;exact Cn
theorem MatOZ.far{g:Nat}{cs:Array Value}(h:MatOZ tS tW w base v L)(hg:g<base)(hb:Blk w g t' cs)(hcs:NoLimb cs)(i:Nat)(u:Value):MatOZ tS tW (w.setCell ⟨g,i,none⟩ u) base v L:=by
 refine⟨h.1.far hg i u,λr hr=>⟨⟨?_,(h.2.1 r hr).1.2⟩,(h.2.1 r hr).2⟩,h.2.2⟩;have f:=(h.2.1 r hr).2;obtain⟨es,q1,q2,q3⟩:=(h.2.1 r hr).1.1;exact⟨es,q1.far (p:=⟨g,i,none⟩) (by show r.g≠g;omega) u,λe he=>⟨(q2 e he).1.set_box hb hcs i u,(q2 e he).2⟩,q3⟩
theorem OwnP.far{g:Nat}{cs:Array Value}(h:OwnP tW w base v xs)(hg:g<base)(hb:Blk w g t' cs)(hcs:NoLimb cs)(i:Nat)(u:Value):OwnP tW (w.setCell ⟨g,i,none⟩ u) base v xs:=by
 obtain⟨es,h1,h2,h3⟩:=h;refine⟨es,?_,λe he=>⟨(h2 e he).1.set_box hb hcs i u,(h2 e he).2⟩,h3⟩;rcases h1 with h|⟨g',sp,h1,h2,h3,h4⟩;exact .inl h;exact Cn
theorem Zl8{x y:Value}(hx:∀ k,x≠limb k)(hy:∀ k,y≠limb k):NoLimb #[x,y]:=λi k=>by
 match i with
 | 0=>simpa using hx k
 | 1=>simpa using hy k
 | i+2=>simp
theorem Zrt{g:Nat}{x0 y0 x y:Value}{base2:Nat}(hb:Blk w g t' #[x0,y0])(h0:∀ k,x0≠limb k)(h1:∀ k,y0≠limb k)(hx:∀ k,x≠limb k)(hM:MatOZ tS tW w base v L)(hg:g<base){v2:Value}(hP:OwnP tW w base2 v2 xs)(hg2:g<base2) :
    Blk ((w.setCell ⟨g,0,none⟩ x).setCell ⟨g,1,none⟩ y) g t' #[x,y]/\MatOZ tS tW ((w.setCell ⟨g,0,none⟩ x).setCell ⟨g,1,none⟩ y) base v L/\OwnP tW ((w.setCell ⟨g,0,none⟩ x).setCell ⟨g,1,none⟩ y) base2 v2 xs:=by
 have e:Blk (w.setCell ⟨g,0,none⟩ x) g t' #[x,y0]:=hb.set_ 0 x;have f:Blk ((w.setCell ⟨g,0,none⟩ x).setCell ⟨g,1,none⟩ y) g t' #[x,y]:=e.set_ 1 y;exact⟨f,(hM.far hg hb (Zl8 h0 h1) 0 x).far hg e (Zl8 hx h1) 1 y,(hP.far hg2 hb (Zl8 h0 h1) 0 x).far hg2 e (Zl8 hx h1) 1 y⟩
end
section
variable{tS tW tG:TypeId}{w w' W0:World}{g3 gd gO base:Nat}{v1 v1' v2 v2':Value}{L:List RZ}{xs q:List Int}{dn:Bool}{dA:Option Addr}{dk dc:Nat}{D:Int}
def EnvW(tS tW tG:TypeId)(w:World)(g3 gd gO base:Nat)(v1 v2:Value)(L:List RZ)(xs:List Int)(dn:Bool)(dA:Option Addr)(dk dc:Nat)(D:Int)(q:List Int):Prop:=
 MatOZ tS tW w base v1 L/\(POwn tW w gO q/\q.length<=maxLen)/\OwnP tW w base v2 xs/\Blk w gd tW #[.bool dn,.slice dA dk dc]/\Wd w dn dA dk dc D/\Blk w g3 tG #[v1,v2]/\(g3<base/\base<=gO)/\(∀ s ∈ L,s.g≠gO)/\v2.ownBlock≠some gO/\(∀ s ∈ L,v2.ownBlock≠some s.g)
theorem EnvW.below(h:EnvW tS tW tG w g3 gd gO base v1 v2 L xs dn dA dk dc D q)(hb:Below w.heap.size w w'):EnvW tS tW tG w' g3 gd gO base v1 v2 L xs dn dA dk dc D q:=by
 obtain⟨h1,h2,h3,h4,h5,h6,h7⟩:=h;exact⟨h1.kept hb,⟨h2.1.below hb,h2.2⟩,h3.kept hb,Ze hb h4,h5.below hb,Ze hb h6,h7⟩
def EnvA(tS tW tG:TypeId)(w:World)(g3 gd base:Nat)(v1 v2 v1':Value)(L:List RZ)(xs:List Int)(dn:Bool)(dA:Option Addr)(dk dc:Nat)(D:Int):Prop:=
 MatOZ tS tW w base v1' L/\OwnP tW w base v2 xs/\Blk w gd tW #[.bool dn,.slice dA dk dc]/\Wd w dn dA dk dc D/\Blk w g3 tG #[v1,v2]/\g3<base/\(∀ s ∈ L,v2.ownBlock≠some s.g)
theorem EnvA.below(h:EnvA tS tW tG w g3 gd base v1 v2 v1' L xs dn dA dk dc D)(hb:Below w.heap.size w w'):EnvA tS tW tG w' g3 gd base v1 v2 v1' L xs dn dA dk dc D:=by
 obtain⟨h1,h3,h4,h5,h6,h7⟩:=h;exact⟨h1.kept hb,h3.kept hb,Ze hb h4,h5.below hb,Ze hb h6,h7⟩
theorem IZ{G:Prop}(h:G:=by
 exact .inr ⟨g',sp,h1,h2,h3,(hg.block g' h4.lt (λe=>eF g' _ h4 (by first|exact e|exact e.symm))).trans h4⟩):G:=h
theorem OwnP.grownT(h:OwnP tW w base v2 xs)(hg:w.grownBy w' v1.ownBlock)(eF:∀ g cs,Blk w g tW cs->v1.ownBlock≠some g)(hk:∀ (A:Option Addr) (n c:Nat) (l:List Nat),Lim w A n c l->Lim w' A n c l):OwnP tW w' base v2 xs:=by
 obtain⟨es,h1,h2,h3⟩:=h;refine⟨es,?_,λe he=>⟨hk _ _ _ _ (h2 e he).1,(h2 e he).2⟩,h3⟩;rcases h1 with h|⟨g',sp,h1,h2,h3,h4⟩;exact .inl h;exact IZ
theorem EnvW.app(h:EnvW tS tW tG w g3 gd gO base v1 v2 L xs dn dA dk dc D q)(t1:tS≠tW)(t2:tS≠tG)(hR:RowS tS w' base v1' (L.map RZ.rs ++ [RZ.rs ⟨gO,q⟩]))(hg:w.grownBy w' v1.ownBlock)(hk:∀ (A:Option Addr) (n c:Nat) (l:List Nat),Lim w A n c l->Lim w' A n c l) :
    EnvA tS tW tG w' g3 gd base v1 v2 v1' (L ++ [⟨gO,q⟩]) xs dn dA dk dc D:=by
 obtain⟨h1,h2,h3,h4,h5,h6,h7,h8,h9,f⟩:=h;refine⟨h1.snoc t1 (r:=⟨gO,q⟩) h2 h7.2 h8 hR hg hk,h3.grownT hg (λg cs hb=>h1.1.ownType hb t1) hk,(hg.block gd h4.lt (λe=>h1.1.ownType h4 t1 (by first|exact e|exact e.symm))).trans h4,h5.of_keep hk,(hg.block g3 h6.lt (λe=>h1.1.ownType h6 t2 (by first|exact e|exact e.symm))).trans h6,h7.1,λs hs=>?_⟩;rcases List.mem_append.1 hs with hs|hs;exact f s hs;rw[Qr]at hs;subst hs;exact h9
theorem RowS.grownP{rs:List RS}(h:RowS tS w base v1 rs)(hg:w.grownBy w' v2.ownBlock)(eF:∀ g cs,Blk w g tS cs->v2.ownBlock≠some g):RowS tS w' base v1 rs:=by
 rcases h with h|⟨g',sp,h1,h2,h3,h4⟩;exact .inl h;exact IZ
theorem OwnP.ownType{t:TypeId}(h:OwnP tW w base v2 xs){g:Nat}{cs:Array Value}(hb:Blk w g t cs)(hne:tW≠t):v2.ownBlock≠some g:=by
 rintro e;obtain⟨es,h1,-,-⟩:=h;rcases h1 with ⟨rfl,_⟩|⟨g',sp,rfl,_,_,h4⟩;cases e;have:g'=g:=by simpa [Value.ownBlock]using e
 subst this;exact hne (h4.type hb)
theorem EnvA.app(h:EnvA tS tW tG w g3 gd base v1 v2 v1' L xs dn dA dk dc D)(t1:tS≠tW)(hP:OwnP tW w' base v2' (xs ++ [D]))(hg:w.grownBy w' v2.ownBlock)(hk:∀ (A:Option Addr) (n c:Nat) (l:List Nat),Lim w A n c l->Lim w' A n c l)(hw:v2'.ownBlock=v2.ownBlock \/ ∀ k,v2'.ownBlock=some k->w.heap.size<=k) :
    MatOZ tS tW w' base v1' L/\OwnP tW w' base v2' (xs ++ [D])/\Blk w' g3 tG #[v1,v2]/\∀ s ∈ L,v2'.ownBlock≠some s.g:=by
 obtain⟨h1,h3,-,h5,h6,h7,h8⟩:=h;refine⟨⟨h1.1.grownP hg (λg cs hb=>h3.ownType hb (Ne.symm t1)),λs hs=>⟨⟨(h1.2.1 s hs).1.1.grown hg (h8 s hs) hk,(h1.2.1 s hs).1.2⟩,(h1.2.1 s hs).2⟩,h1.2.2⟩,hP,(hg.block g3 h6.lt (λe=>?_)).trans h6,λs hs e=>?_⟩
 ·have:=h3.row_ge g3 (by first|exact e|exact e.symm);omega
 rcases hw with hw|hw;exact h8 s hs (by rw[<- hw];exact e);have:=hw _ e;have:=(h1.2.1 s hs).1.1.lt;omega
theorem EnvW.far{t:TypeId}{g:Nat}{cs:Array Value}(h:EnvW tS tW tG w g3 gd gO base v1 v2 L xs dn dA dk dc D q)(t1:tS≠t)(hg:w.grownBy w' v1.ownBlock)(hb:Blk w g t cs):Blk w' g t cs:=
 (hg.block g hb.lt (λe=>h.1.1.ownType hb t1 (by first|exact e|exact e.symm))).trans hb
theorem Zei{t:TypeId}{g:Nat}{A:Option Addr}{n c:Nat}(h:Blk w g t #[.slice A n c]):Reads w (g+1) 1 (some ⟨g,0,none⟩) 1 (Zar [⟨A,n,c⟩]):=
 ⟨rfl,λ_=>⟨_,rfl,Qx _,λj u hu=>by
  rw[Zi,Qz,h.cell];simpa [Zar]using hu⟩⟩
theorem Zur{t:TypeId}{g:Nat}{neg:Bool}{A:Option Addr}{n c:Nat}(l:List Nat)(h:Blk w g t #[.bool neg,.slice A n c]):Reads w (g+1) 2 (some ⟨g,0,none⟩) 1 (Zal [⟨neg,A,n,c,l⟩]):=
 ⟨rfl,λ_=>⟨_,rfl,Qx _,λj u hu=>by
  rw[Zi,Qz,h.cell];simpa [Zal]using hu⟩⟩
theorem EnvW.cells(h:EnvW tS tW tG w g3 gd gO base v1 v2 L xs dn dA dk dc D q):w.cell? ⟨g3,0,none⟩=some v1/\w.cell? ⟨g3,1,none⟩=some v2:=by
 have:=h.2.2.2.2.2.1;exact It
theorem EnvA.cells(h:EnvA tS tW tG w g3 gd base v1 v2 v1' L xs dn dA dk dc D):w.cell? ⟨g3,0,none⟩=some v1/\w.cell? ⟨g3,1,none⟩=some v2:=by
 have:=h.2.2.2.2.1;exact It
theorem Kept.grownG{G:Nat->Prop}{row:Option Nat}(h:Kept G W0 w)(hg:w.grownBy w' row)(hr:∀ k,row=some k->W0.heap.size<=k):Kept G W0 w':=
 ⟨hg.os.trans h.os,hg.tape.trans h.tape,hg.output.trans h.output,Qv h.size hg.size,λk hk hG=>(hg.block k (Qd hk h.size) (λe=>by have:=hr k (by first|exact e|exact e.symm);omega)).trans (h.block k hk hG)⟩
theorem Kept.of_belowGe{g:Nat}(h:Below g w w'):Kept (λk=>g<=k) w w':=⟨h.os,h.tape,h.output,h.size,λk _ hk=>h.block k Gk⟩
end
theorem Zz7:(Tryz.prog.info? 39).map (λi=>(i.zero,i.size,i.bytes))=some (some (.agg #[.bool false,.slice none 0 0]),2,32):=by kernel_rfl
theorem Zzj:(Tryz.prog.info? 150).map (λi=>(i.zero,i.size,i.bytes))=some (some (.slice none 0 0),1,24):=by kernel_rfl
theorem Zkn(a b:Nat):Qw (a:Int) (b:Int)=((a/b:Nat):Int):=by rw[Int.fdiv_eq_ediv_of_nonneg _ Gk];rfl
theorem Zqr(row:List Rat){j k:Nat}(h:j<k):(row[j]?.getD 0).den<=denTo row k:=Nat.le_of_dvd (Zeg _ _) (Zlh row h)
theorem Zpy(A:Option Addr)(n c m:Nat)(Q:List (List Rat))(w:World)(h:MFL w A n c Q)(hn9:n<=900)(hm:∀ i,i<n->(Q[i]?.getD []).length=m)(hm0:0<m)(hm9:m<=900)
    (m6:∀ i k,i<n->k<=m->denTo (Q[i]?.getD []) k<pw 1000) (n6:∀ i j,(Zj Q i j).num.natAbs<pw 1000) :
    Calls Tryz.prog 127 #[.slice A n c] w λe w'=>∃ v vby L,e=.returned (.agg #[v,vby])/\Below w.heap.size w w'/\MatOZ 150 39 w' w.heap.size v L/\L.map RZ.q=Z8 Q /\
     OwnP 39 w' w.heap.size vby ((Qu n).map λi=>((denAt Q i:Nat):Int))/\∀ s ∈ L,vby.ownBlock≠some s.g:=by
 obtain⟨iW,hi,E8,F5,C8⟩:=info_parts Zz7;obtain⟨iS,ki,k6,j7,k8⟩:=info_parts Zzj;have hmx:=Gt;have c4:(150:TypeId)≠39:=Gj;have hl:=Zd h.1;have J7:=h.2.1;have G8:=h.2.2.1;unfold maxLen at G8;replace hm:=Zd hm;replace m6:=Zd m6;replace n6:=Zd n6;obtain⟨W0,C6,p4,⟨q0,q1⟩,s0⟩:=Zda w 152 #[.slice none 0 0,.slice none 0 0] 152 #[.slice none 0 0,.slice none 0 0];have I0:=Zd h;obtain⟨gR,e5⟩:=Gz w.heap.size;rw[e5]at q0 q1 s0 p4;obtain⟨g3,q6⟩:=Gz (gR+1);rw[q6]at q1;have I3:Hid (W0.heap.size=g3+1):=Zd (by rw[s0];omega);have F9:Hid (gR<g3):=Zd Gk;clear h;replace q0:=Zd q0;replace q1:=Zd q1;go_in;go_wp2_with fail;(try rw[C6]);(try rw[e5]);(try rw[q6]);replace e5:=Zd e5;replace q6:=Zd q6;replace p4:=Zd p4;clear C6 s0
 go_loopg [16] n (λk iv wr=>∃ (i:Nat) (v1 v2:Value) (L:List RZ),i+k=n/\iv=.int .i64 i/\Blk wr g3 152 #[v1,v2]/\MatOZ 150 39 wr W0.heap.size v1 L/\Hid (L.map RZ.q=(Q.take i).map Zd7)/\OwnP 39 wr W0.heap.size v2 ((Qu i).map λi=>((denAt Q i:Nat):Int))/\Hid (∀ s ∈ L,v2.ownBlock≠some s.g)/\Kept (λk=>k=g3) W0 wr)
 case atStart=>exact⟨0,.slice none 0 0,.slice none 0 0,[],by omega,rfl,q1.out,MatOZ.nil _ _ _ _,Zd Gh,OwnP.nil _ _ _,Zd (λs hs=>(by cases hs)),Qm _ _⟩
 case round =>
  obtain⟨i,v1,v2,L,J9,rfl,d3,d5,A7,d6,t0,hK⟩:=hrel;have J1:=F9.out;have J2:=I3.out;have h8:=hK.blk q0.out Gk;have J6:∀ k,k=g3->∃ t cs,Blk W0 k t cs/\NoLimb cs:=λk hk=>⟨_,_,(hk▸q1.out:Blk W0 k 152 #[.slice none 0 0,.slice none 0 0]),λi u=>by match i with|0=>simp|1=>simp|i+2=>simp⟩;cases gk with
  | zero =>
   obtain rfl:i=n:=Gk;have t1:decide ((i:Int)<(i:Int))=false:=Gh;have b0:wr.cell? ⟨g3,0,none⟩=some v1:=by rw[d3.cell];rfl
   have b1:wr.cell? ⟨g3,1,none⟩=some v2:=by rw[d3.cell];rfl
   have r0:wr.cell? ⟨gR,0,none⟩=some (.slice none 0 0):=by rw[h8.cell];rfl
   have r1:wr.cell? ⟨gR,1,none⟩=some (.slice none 0 0):=by rw[h8.cell];rfl
   have z0:=h8.frozen 0;have z1:=h8.frozen 1;replace d5:=Zd d5;replace d6:=Zd d6;obtain⟨a1,a2,a3,rfl⟩:=d5.out.1.isSlice;obtain⟨a4,a5,a6,rfl⟩:=d6.out.isSlice;obtain⟨X,hX⟩:∃ X,(wr.setCell ⟨gR,0,none⟩ (.slice a1 a2 a3)).setCell ⟨gR,1,none⟩ (.slice a4 a5 a6)=X:=⟨_,rfl⟩;have c9:=Zrt (x:=.slice a1 a2 a3) (y:=.slice a4 a5 a6) h8 (λk=>by simp) (λk=>by simp) (λk=>by simp) d5.out Gk d6.out Gk;rw[hX]at c9;obtain⟨p1,p2,p3⟩:=c9;have y0:X.cell? ⟨gR,0,none⟩=some (.slice a1 a2 a3):=by rw[p1.cell];rfl
   have y1:X.cell? ⟨gR,1,none⟩=some (.slice a4 a5 a6):=by rw[p1.cell];rfl
   have G7:Hid (Below w.heap.size w X):=Zd (by
    rw[e5.out]
    have h1:Below gR W0 X:=by
     rw[<- hX];exact(((hK.to_below (B:=gR) (λk hk=>by omega) Gk).setCell (p:=⟨gR,0,none⟩) (Qa _) _).setCell (p:=⟨gR,1,none⟩) (Qa _) _)
    exact p4.out.trans h1)
   replace p2:=Zd p2;replace p3:=Zd p3;clear p1 h8 d3;go_wp2_with fail;(try rw[hX]);refine bodyPost_ret (v:=.agg #[.slice a1 a2 a3,.slice a4 a5 a6]) (by simp[results,Tryz.results127,go_sem,y0,y1]) rfl ?_;have E9:w.heap.size<=W0.heap.size:=by rw[e5.out];omega
   refine⟨_,_,L,rfl,G7.out,p2.out.mono E9,?_,p3.out.mono E9,t0.out⟩;rw[A7.out];unfold Z8;rw[List.take_of_length_le (by rw[hl.out];exact Qa _)]
  | succ j =>
   obtain rfl:j=n-(i+1):=Gk;have n0:i<n:=Gk;have t1:decide ((i:Int)<(n:Int))=true:=Gv Gk;have bi:(i:Int)<(n:Int):=Gk;have j1:Below w.heap.size w wr:=by rw[e5.out];exact p4.out.trans (hK.to_below (λk hk=>by omega) Gk)
   obtain⟨ga,oa,A1,n1,c1,rfl,k0,hF⟩:=I0.out.at_ n0;obtain⟨row,c0⟩:=Gz (Q[i]?.getD []);have H6:n1=m:=by rw[<- hF.len];exact hm.out i n0
   subst H6;rw[c0]at hF;have E4:=hF.cap;unfold maxLen at E4;have r7:Hid (row.length=n1):=Zd hF.len;have c8:Hid (∀ k,k<=n1->denTo row k<pw 1000):=Zd (λk hk=>by rw[<- c0];exact m6.out i k n0 hk);have w5:Hid (∀ t:Nat,(row[t]?.getD 0).num.natAbs<pw 1000):=Zd (λt=>by rw[<- c0];exact n6.out i t);have k1:=Zc j1 k0;replace hF:=Zd hF;replace c0:=Zd c0;replace d3:=Zd d3;replace d5:=Zd d5;replace d6:=Zd d6;have E5:Hid (∀ s ∈ L,s.g<wr.heap.size):=Zd (λs hs=>(d5.out.2.1 s hs).1.1.lt)
   have C5:Hid (∀ k,v2.ownBlock=some k->k<wr.heap.size):=Zd (λk hk=>by
    obtain⟨es,h1,-,-⟩:=d6.out;rcases h1 with ⟨rfl,-⟩|⟨g',sp,rfl,-,-,h4⟩;cases hk;have:g'=k:=by simpa [Value.ownBlock]using hk
    rw[<- this];exact h4.lt)
   clear h8 k0;go_wp2_with fail;refine(Zb3 1 wr Gj Gj).mono ?_;rintro e w1 ⟨p8,d0,D0,e0,f0,rfl,hN⟩;obtain⟨gd,l1⟩:=Gz w1.heap.size;obtain⟨V,hV,r5,qd,kW,kB,sV⟩:=Zq 39 #[.bool d0,.slice D0 e0 f0] p8 p8.size;have H2:Hid (Wd V d0 D0 e0 f0 ((denTo row 0:Nat):Int)):=Zd (kW _ _ _ _ _ hN);rw[l1]at qd
   have t5:Hid (g3<gd/\W0.heap.size<=gd):=Zd (by
    have h1:=d3.out.lt;have h2:=p8.size;have h3:=hK.size;omega)
   have υ2:Hid (Below w.heap.size w V):=Zd (Gs j1 r5);have G9:Hid (gd<V.heap.size):=Zd qd.lt;have i7:wr.heap.size<=gd:=by rw[<- l1];exact p8.size
   have I6:Hid (∀ wx,Below gd V wx->MatOZ 150 39 wx W0.heap.size v1 L/\OwnP 39 wx W0.heap.size v2 ((Qu i).map λi=>((denAt Q i:Nat):Int))/\Blk wx g3 152 #[v1,v2]/\Kept (λk=>k=g3) W0 wx):=Zd (λwx hx=>by
    have hb:Below wr.heap.size wr wx:=r5.trans (hx.mono i7);have G3:Kept (λk=>k=g3) W0 V:=hK.below r5;exact⟨d5.out.kept hb,d6.out.kept hb,d3.out.below hb d3.out.lt,G3.and (Kept.of_belowGe hx) (λk hk h=>by have:=hK.size;omega)⟩)
   have E2:Hid (∀ s ∈ L,s.g<gd):=Zd (λs hs=>Qd (E5.out s hs) i7);have F8:Hid (∀ k,v2.ownBlock=some k->k<gd):=Zd (λk hk=>Qd (C5.out k hk) i7);have C7:=Zd qd;replace l1:=Zd l1;clear d3 d5 d6 hK j1 hN qd kW kB sV r5 p8 k1 E5 C5 i7;go_wp2_with fail;(try rw[l1.out]);(try rw[hV]);clear hV;have υ7:Hid (w.heap.size<=gd):=Zd (by have h1:=t5.out;rw[e5.out];omega);have G5:Hid (∀ k,k=gd->∃ t cs,Blk V k t cs/\NoLimb cs):=Zd (λk hk=>⟨_,_,(hk▸C7.out:Blk V k 39 #[.bool d0,.slice D0 e0 f0]),Zgl _ _ _ _⟩)
   go_loopg [23] n1 (λk iv wr=>∃ (t:Nat) (dn:Bool) (dA:Option Addr) (dk dc:Nat),t+k=n1/\iv=.int .i64 t/\Blk wr gd 39 #[.bool dn,.slice dA dk dc]/\Wd wr dn dA dk dc ((denTo row t:Nat):Int)/\Kept (λk=>k=gd) V wr)
   case atStart=>exact⟨0,d0,D0,e0,f0,by omega,rfl,C7.out,H2.out,Qm _ _⟩
   case round =>
    obtain⟨t,dn,dA,dk,dc,J8,rfl,U,d7,n7⟩:=hrel;have e6:Below w.heap.size w wr:=υ2.out.trans (n7.to_below (λk hk=>by rw[hk];exact υ7.out) (υ2.out.size));cases gk with
    | zero =>
     obtain rfl:t=n1:=Gk;have t2:decide ((t:Int)<(t:Int))=false:=Gh;have I2:Hid (denTo row t=denAt Q i):=Zd (by unfold denAt;rw[c0.out,r7.out]);have t7:Below gd V wr:=n7.to_below (λk hk=>by omega) (QA G9.out);obtain⟨gO,n9⟩:=Gz wr.heap.size;obtain⟨Wo,r4⟩:=Gz (wr.alloc (.cells (Zbx (Qg t Zcv)) 39));have G6:=makeW (P:=Tryz.prog) 150 39 Tryz.underlying150 hi E8 F5 C8 (t:Int) t rfl Gk;have m5:Below wr.heap.size wr Wo:=by rw[<- r4];exact(Qc _ _).alloc (Qa _) _
     have hO:POwn 39 Wo gO (Qg t 0):=by rw[<- r4,<- n9];exact POwn.new _ _ _
     have υ6:Hid (Blk Wo gd 39 #[.bool dn,.slice dA dk dc]):=Zd (U.below m5 U.lt);have F2:Hid (Wd Wo dn dA dk dc ((denTo row t:Nat):Int)):=Zd (d7.below m5);have C9:Hid (Below gd V Wo):=Zd (t7.trans (m5.mono (QA U.lt)));have s6:Hid (Below w.heap.size w Wo):=Zd (Gs e6 m5);have C1:Hid (gd<gO):=Zd (by rw[<- n9];exact U.lt);replace hO:=Zd hO;clear U d7 n7 e6 t7 m5;go_wp2_with fail;(try rw[n9]);(try rw[r4]);clear r4 G6;replace n9:=Zd n9;have z8:Hid (∀ k,k=gO->∃ t cs,Blk Wo k t cs/\NoLimb cs):=Zd (λk hk=>by rw[hk];exact hO.out.box)
     go_loopg [46] t (λk iv wr=>∃ (x:Nat) (q3:List Int),x+k=t/\iv=.int .i64 x/\POwn 39 wr gO q3/\Hid (q3.length=t)/\Hid (∀ y:Nat,q3[y]?.getD 0=if y<x then (row[y]?.getD 0).num*((denTo row t/(row[y]?.getD 0).den:Nat):Int)else 0)/\Kept (λk=>k=gO) Wo wr)
     case atStart=>exact⟨0,Qg t 0,by omega,rfl,hO.out,Zd Gh,Zd (λy=>by rw[Gw (QH y),List.getElem?_replicate];split <;> rfl),Qm _ _⟩
     case round =>
      obtain⟨x,q3,J4,rfl,r9,T,B7,f8⟩:=hrel;have I5:=C1.out;have l3:Below gd V wr:=C9.out.trans (f8.to_below (λk hk=>by omega) (QA υ6.out.lt));have U:=f8.blk υ6.out Gk;have d7:=f8.wd F2.out z8.out;have e6:Below w.heap.size w wr:=s6.out.trans (f8.to_below (λk hk=>by have:=υ7.out;omega) s6.out.size);cases gk with
      | zero =>
       obtain rfl:x=t:=Gk;have t3:decide ((x:Int)<(x:Int))=false:=Gh;obtain⟨mM,mP,m3,mK⟩:=I6.out wr l3
       have E1:Hid (q3=Zd7 row):=Zd (by
        apply Qt;intro y;have h1:=B7.out y;by_cases hy:y<x
        ·rw[Gx hy]at h1
         rw[Qh (by rw[T.out];exact hy)]at h1 ⊢;unfold Zd7;have B3:y<row.length:=by rw[r7.out];exact hy
         rw[QC,Qh B3];simp only[QF,Option.map_some]at h1 ⊢;rw[h1,Qh B3,r7.out];rfl
        rw[Qy (by rw[T.out];omega),Qy (by rw[Zku,r7.out];omega)])
       have v5:EnvW 150 39 152 wr g3 gd gO W0.heap.size v1 v2 L ((Qu i).map λi=>((denAt Q i:Nat):Int)) dn dA dk dc ((denTo row x:Nat):Int) q3:=
        ⟨mM,⟨r9,by rw[T.out];unfold maxLen;omega⟩,mP,U,d7,m3,⟨by omega,by have:=t5.out;omega⟩,λs hs e=>by have:=E2.out s hs;omega,λe=>by have:=F8.out _ e;omega,t0.out⟩
       have K0:L.length=i:=by
        have h1:(L.map RZ.q).length=((Q.take i).map Zd7).length:=by rw[A7.out]
        rw[Qf,Qf,List.length_take,hl.out]at h1;omega
       have a0:(L.map RZ.rs).length+1<=1000:=by rw[Qf];omega
       have v9:((Qu i).map λi=>((denAt Q i:Nat):Int)).length+1<=1000:=by rw[Qf,List.length_range];omega
       have c7:(150:TypeId)≠152:=Gj;replace v5:=Zd v5;replace mK:=Zd mK;replace T:=Zd T.out;clear mM mP m3 r9 U d7 l3 e6 f8;go_wp2_with fail;obtain⟨X0,r3⟩:=Gz wr.drew;have o6:Below wr.heap.size wr X0:=by rw[<- r3];exact Zh (Qc _ _) 1
       have hE:=v5.out.below o6;have x7:Kept (λk=>k=g3) W0 X0:=mK.out.below o6;have y5:wr.drew.cell? ⟨g3,0,none⟩=some v1/\wr.drew.cell? ⟨g3,1,none⟩=some v2:=by rw[r3];exact hE.cells
       refine Zz [11,13] (λwx=>wx.cell? ⟨g3,0,none⟩=some v1/\wx.cell? ⟨g3,1,none⟩=some v2) hmx y5 (λhxs9=>?_);refine Zkb 5 [0,1,2,5,6] rfl Gi y5 ?_
       iterate 5 (refine tkA ?_;try simp only[Qb,Zg9,Zgn,Zg3,Gr,Gq,Gp])
       refine tk0 ?_;rw[r3];clear y5 hxs9 o6 r3;have G0:=hE.1.1;have I1:=hE.2.2.1;have s5:=hE.2.2.2.2.2.2.1.1;have D6:=hE;clear D6;refine Zfa (i:=3) (j:=7) rfl rfl Gi (λK hK=>?_) (λK hK=>?_)
       focus
        obtain⟨Y1,q7⟩:∃ Y,X0.alloc (.cells #[.slice (some ⟨gO,0,none⟩) x x] 150)=Y:=⟨_,rfl⟩;obtain⟨q4,m8⟩:=Gz X0.heap.size;have υ4:Below X0.heap.size X0 Y1:=by rw[<- q7];exact(Qc _ _).alloc (Qa _) _
        have l8:Blk Y1 q4 150 #[.slice (some ⟨gO,0,none⟩) x x]:=by rw[<- q7,<- m8];exact Qn _ _ _
        have O:=hE.below υ4;have e1:=x7.below υ4;go_simp;(try rw[q7]);(try rw[m8]);refine hK.out _ _ (λ_=>O.cells) ?_;clear hK K q7 m8
        try simp only[Qb,Zg9,Zgn,Zg3]
        refine Zfa (i:=4) (j:=7) rfl rfl Gi (λK hK=>?_) (λK hK=>?_)
        focus
         rw[Gx Ge];refine Zau _ (.tmp 63) (.tmp 65) 149 rfl W0.heap.size 150 iS Tryz.underlying149 ki k6 j7 k8 v1 (L.map RZ.rs) rfl O.1.1 _ (some ⟨q4,0,none⟩) 1 1 [⟨some ⟨gO,0,none⟩,x,x⟩] rfl (Zei l8) rfl a0 e1.size ?_;intro H4 Y4 D9 t9 F4;have e4:=O.app c4 c7 (by simp only[RZ.rs,T.out];exact D9) t9 F4;have F6:=e1.grownG t9 (λk hk=>O.1.1.row_ge k hk);refine hK.out _ _ (λ_=>e4.cells) ?_;clear hK K
         try simp only[Qb,Zg9,Zgn,Zg3]
         refine Zgo 1 [10] rfl Gi e4.cells ?_
         (refine tkA ?_;try simp only[Qb,Zg9,Zgn,Zg3,Gr,Gq,Gp])
         refine tk0 ?_;refine wpAnyL_o 7 λK hK=>?_;obtain⟨G1,H3,-,-⟩:=Blk.two (e4.2.2.1);go_simp;refine hK.out _ _ (λ_=>e4.cells) ?_;clear hK K G1 H3
         try simp only[Qb,Zg9,Zgn,Zg3]
         refine wpAnyL_o 8 λK hK=>?_;obtain⟨Y6,p9⟩:=Gz (Y4.alloc (.cells #[.bool dn,.slice dA dk dc] 39));obtain⟨E7,l6⟩:=Gz Y4.heap.size;have υ5:Below Y4.heap.size Y4 Y6:=by rw[<- p9];exact(Qc _ _).alloc (Qa _) _
         have B4:Blk Y6 E7 39 #[.bool dn,.slice dA dk dc]:=by rw[<- p9,<- l6];exact Qn _ _ _
         have t6:=e4.below υ5;have D7:=F6.below υ5;go_simp;(try rw[p9]);(try rw[l6]);refine hK.out _ _ (λ_=>t6.cells) ?_;clear hK K p9 l6
         try simp only[Qb,Zg9,Zgn,Zg3]
         have EL:=t6;have KL:=D7;have bL:=B4;obtain⟨vL,rfl⟩:∃ x:Value,x=H4:=⟨_,rfl⟩;obtain⟨gL,rfl⟩:∃ x:Nat,x=E7:=⟨_,rfl⟩;obtain⟨WL,rfl⟩:=Gy Y6
        rotate_left 1
        focus
         obtain⟨H1,J0,-,-⟩:=Blk.two (O.2.2.2.1);go_simp;refine hK.out _ _ (λ_=>O.cells) ?_;clear hK K H1 J0
         try simp only[Qb,Zg9,Zgn,Zg3]
         refine Zfa (i:=4) (j:=8) rfl rfl Gi (λK hK=>?_) (λK hK=>?_)
         focus
          rw[Gx Ge];refine Zau _ (.tmp 63) (.tmp 65) 149 rfl W0.heap.size 150 iS Tryz.underlying149 ki k6 j7 k8 v1 (L.map RZ.rs) rfl O.1.1 _ (some ⟨q4,0,none⟩) 1 1 [⟨some ⟨gO,0,none⟩,x,x⟩] rfl (Zei l8) rfl a0 e1.size ?_;intro B6 r8 υ9 n4 v3;have f9:=O.app c4 c7 (by simp only[RZ.rs,T.out];exact υ9) n4 v3;have z4:=e1.grownG n4 (λk hk=>O.1.1.row_ge k hk);refine hK.out _ _ (λ_=>f9.cells) ?_;clear hK K
          try simp only[Qb,Zg9,Zgn,Zg3]
          refine Zgo 1 [10] rfl Gi f9.cells ?_
          (refine tkA ?_;try simp only[Qb,Zg9,Zgn,Zg3,Gr,Gq,Gp])
          refine tk0 ?_;refine wpAnyL_o 8 λK hK=>?_;obtain⟨x8,j2⟩:=Gz (r8.alloc (.cells #[.bool dn,.slice dA dk dc] 39));obtain⟨s7,i5⟩:=Gz r8.heap.size;have m0:Below r8.heap.size r8 x8:=by rw[<- j2];exact(Qc _ _).alloc (Qa _) _
          have x3:Blk x8 s7 39 #[.bool dn,.slice dA dk dc]:=by rw[<- j2,<- i5];exact Qn _ _ _
          have p6:=f9.below m0;have v0:=z4.below m0;go_simp;(try rw[j2]);(try rw[i5]);refine hK.out _ _ (λ_=>p6.cells) ?_;clear hK K j2 i5
          try simp only[Qb,Zg9,Zgn,Zg3]
          have EL:=p6;have KL:=v0;have bL:=x3;obtain⟨vL,rfl⟩:∃ x:Value,x=B6:=⟨_,rfl⟩;obtain⟨gL,rfl⟩:∃ x:Nat,x=s7:=⟨_,rfl⟩;obtain⟨WL,rfl⟩:=Gy x8
         rotate_left 1
         focus
          obtain⟨F3,j4⟩:=Gz (Y1.alloc (.cells #[.bool dn,.slice dA dk dc] 39));obtain⟨s9,g5⟩:=Gz Y1.heap.size;have h5:Below Y1.heap.size Y1 F3:=by rw[<- j4];exact(Qc _ _).alloc (Qa _) _
          have w3:Blk F3 s9 39 #[.bool dn,.slice dA dk dc]:=by rw[<- j4,<- g5];exact Qn _ _ _
          have b7:=O.below h5;have o5:=e1.below h5;have o8:=Ze h5 l8;go_simp;(try rw[j4]);(try rw[g5]);refine hK.out _ _ (λ_=>b7.cells) ?_;clear hK K j4 g5
          try simp only[Qb,Zg9,Zgn,Zg3]
          refine wpAnyL_o 4 λK hK=>?_;rw[Gx Ge];refine Zau _ (.tmp 63) (.tmp 65) 149 rfl W0.heap.size 150 iS Tryz.underlying149 ki k6 j7 k8 v1 (L.map RZ.rs) rfl b7.1.1 _ (some ⟨q4,0,none⟩) 1 1 [⟨some ⟨gO,0,none⟩,x,x⟩] rfl (Zei o8) rfl a0 o5.size ?_;intro C3 H8 w0 g6 w6;have h6:=b7.app c4 c7 (by simp only[RZ.rs,T.out];exact w0) g6 w6;have w7:=o5.grownG g6 (λk hk=>b7.1.1.row_ge k hk);have j6:=b7.far c4 g6 w3;refine hK.out _ _ (λ_=>h6.cells) ?_;clear hK K
          try simp only[Qb,Zg9,Zgn,Zg3]
          refine Zgo 1 [10] rfl Gi h6.cells ?_
          (refine tkA ?_;try simp only[Qb,Zg9,Zgn,Zg3,Gr,Gq,Gp])
          refine tk0 ?_;have EL:=h6;have KL:=w7;have bL:=j6;obtain⟨vL,rfl⟩:∃ x:Value,x=C3:=⟨_,rfl⟩;obtain⟨gL,rfl⟩:∃ x:Nat,x=s9:=⟨_,rfl⟩;obtain⟨WL,rfl⟩:=Gy H8
       rotate_left 3
       focus
        obtain⟨F7,D8,-,-⟩:=Blk.two (hE.2.2.2.1);go_simp;refine hK.out _ _ (λ_=>hE.cells) ?_;clear hK K F7 D8
        try simp only[Qb,Zg9,Zgn,Zg3]
        refine Zfa (i:=3) (j:=8) rfl rfl Gi (λK hK=>?_) (λK hK=>?_)
        focus
         obtain⟨j5,i8⟩:∃ Y,X0.alloc (.cells #[.slice (some ⟨gO,0,none⟩) x x] 150)=Y:=⟨_,rfl⟩;obtain⟨l4,g9⟩:=Gz X0.heap.size;have o7:Below X0.heap.size X0 j5:=by rw[<- i8];exact(Qc _ _).alloc (Qa _) _
         have o2:Blk j5 l4 150 #[.slice (some ⟨gO,0,none⟩) x x]:=by rw[<- i8,<- g9];exact Qn _ _ _
         have b6:=hE.below o7;have i1:=x7.below o7;go_simp;(try rw[i8]);(try rw[g9]);refine hK.out _ _ (λ_=>b6.cells) ?_;clear hK K i8 g9
         try simp only[Qb,Zg9,Zgn,Zg3]
         refine Zfa (i:=4) (j:=8) rfl rfl Gi (λK hK=>?_) (λK hK=>?_)
         focus
          rw[Gx Ge];refine Zau _ (.tmp 63) (.tmp 65) 149 rfl W0.heap.size 150 iS Tryz.underlying149 ki k6 j7 k8 v1 (L.map RZ.rs) rfl b6.1.1 _ (some ⟨l4,0,none⟩) 1 1 [⟨some ⟨gO,0,none⟩,x,x⟩] rfl (Zei o2) rfl a0 i1.size ?_;intro C4 q5 A8 m9 y4;have h0:=b6.app c4 c7 (by simp only[RZ.rs,T.out];exact A8) m9 y4;have x6:=i1.grownG m9 (λk hk=>b6.1.1.row_ge k hk);refine hK.out _ _ (λ_=>h0.cells) ?_;clear hK K
          try simp only[Qb,Zg9,Zgn,Zg3]
          refine Zgo 1 [10] rfl Gi h0.cells ?_
          (refine tkA ?_;try simp only[Qb,Zg9,Zgn,Zg3,Gr,Gq,Gp])
          refine tk0 ?_;refine wpAnyL_o 8 λK hK=>?_;obtain⟨x5,i9⟩:=Gz (q5.alloc (.cells #[.bool dn,.slice dA dk dc] 39));obtain⟨υ3,e8⟩:=Gz q5.heap.size;have n8:Below q5.heap.size q5 x5:=by rw[<- i9];exact(Qc _ _).alloc (Qa _) _
          have y2:Blk x5 υ3 39 #[.bool dn,.slice dA dk dc]:=by rw[<- i9,<- e8];exact Qn _ _ _
          have m1:=h0.below n8;have y8:=x6.below n8;go_simp;(try rw[i9]);(try rw[e8]);refine hK.out _ _ (λ_=>m1.cells) ?_;clear hK K i9 e8
          try simp only[Qb,Zg9,Zgn,Zg3]
          have EL:=m1;have KL:=y8;have bL:=y2;obtain⟨vL,rfl⟩:∃ x:Value,x=C4:=⟨_,rfl⟩;obtain⟨gL,rfl⟩:∃ x:Nat,x=υ3:=⟨_,rfl⟩;obtain⟨WL,rfl⟩:=Gy x5
         rotate_left 1
         focus
          obtain⟨B8,j3⟩:=Gz (j5.alloc (.cells #[.bool dn,.slice dA dk dc] 39));obtain⟨t8,i2⟩:=Gz j5.heap.size;have g8:Below j5.heap.size j5 B8:=by rw[<- j3];exact(Qc _ _).alloc (Qa _) _
          have υ8:Blk B8 t8 39 #[.bool dn,.slice dA dk dc]:=by rw[<- j3,<- i2];exact Qn _ _ _
          have b8:=b6.below g8;have m7:=i1.below g8;have k9:=Ze g8 o2;go_simp;(try rw[j3]);(try rw[i2]);refine hK.out _ _ (λ_=>b8.cells) ?_;clear hK K j3 i2
          try simp only[Qb,Zg9,Zgn,Zg3]
          refine wpAnyL_o 4 λK hK=>?_;rw[Gx Ge];refine Zau _ (.tmp 63) (.tmp 65) 149 rfl W0.heap.size 150 iS Tryz.underlying149 ki k6 j7 k8 v1 (L.map RZ.rs) rfl b8.1.1 _ (some ⟨l4,0,none⟩) 1 1 [⟨some ⟨gO,0,none⟩,x,x⟩] rfl (Zei k9) rfl a0 m7.size ?_;intro D4 H7 x1 f6 z9;have i4:=b8.app c4 c7 (by simp only[RZ.rs,T.out];exact x1) f6 z9;have x0:=m7.grownG f6 (λk hk=>b8.1.1.row_ge k hk);have k2:=b8.far c4 f6 υ8;refine hK.out _ _ (λ_=>i4.cells) ?_;clear hK K
          try simp only[Qb,Zg9,Zgn,Zg3]
          refine Zgo 1 [10] rfl Gi i4.cells ?_
          (refine tkA ?_;try simp only[Qb,Zg9,Zgn,Zg3,Gr,Gq,Gp])
          refine tk0 ?_;have EL:=i4;have KL:=x0;have bL:=k2;obtain⟨vL,rfl⟩:∃ x:Value,x=D4:=⟨_,rfl⟩;obtain⟨gL,rfl⟩:∃ x:Nat,x=t8:=⟨_,rfl⟩;obtain⟨WL,rfl⟩:=Gy H7
        rotate_left 2
        focus
         obtain⟨k4,j0⟩:=Gz (X0.alloc (.cells #[.bool dn,.slice dA dk dc] 39));obtain⟨s8,g7⟩:=Gz X0.heap.size;have l5:Below X0.heap.size X0 k4:=by rw[<- j0];exact(Qc _ _).alloc (Qa _) _
         have x2:Blk k4 s8 39 #[.bool dn,.slice dA dk dc]:=by rw[<- j0,<- g7];exact Qn _ _ _
         have p5:=hE.below l5;have z6:=x7.below l5;go_simp;(try rw[j0]);(try rw[g7]);refine hK.out _ _ (λ_=>p5.cells) ?_;clear hK K j0 g7
         try simp only[Qb,Zg9,Zgn,Zg3]
         refine wpAnyL_o 3 λK hK=>?_;obtain⟨F0,i6⟩:∃ Y,k4.alloc (.cells #[.slice (some ⟨gO,0,none⟩) x x] 150)=Y:=⟨_,rfl⟩;obtain⟨t4,g4⟩:=Gz k4.heap.size;have h7:Below k4.heap.size k4 F0:=by rw[<- i6];exact(Qc _ _).alloc (Qa _) _
         have w9:Blk F0 t4 150 #[.slice (some ⟨gO,0,none⟩) x x]:=by rw[<- i6,<- g4];exact Qn _ _ _
         have b9:=p5.below h7;have p7:=z6.below h7;have j8:=Ze h7 x2;go_simp;(try rw[i6]);(try rw[g4]);refine hK.out _ _ (λ_=>b9.cells) ?_;clear hK K i6 g4
         try simp only[Qb,Zg9,Zgn,Zg3]
         refine wpAnyL_o 4 λK hK=>?_;rw[Gx Ge];refine Zau _ (.tmp 63) (.tmp 65) 149 rfl W0.heap.size 150 iS Tryz.underlying149 ki k6 j7 k8 v1 (L.map RZ.rs) rfl b9.1.1 _ (some ⟨t4,0,none⟩) 1 1 [⟨some ⟨gO,0,none⟩,x,x⟩] rfl (Zei w9) rfl a0 p7.size ?_;intro B9 H0 x4 f7 v7;have i0:=b9.app c4 c7 (by simp only[RZ.rs,T.out];exact x4) f7 v7;have y6:=p7.grownG f7 (λk hk=>b9.1.1.row_ge k hk);have d4:=b9.far c4 f7 j8;refine hK.out _ _ (λ_=>i0.cells) ?_;clear hK K
         try simp only[Qb,Zg9,Zgn,Zg3]
         refine Zgo 1 [10] rfl Gi i0.cells ?_
         (refine tkA ?_;try simp only[Qb,Zg9,Zgn,Zg3,Gr,Gq,Gp])
         refine tk0 ?_;have EL:=i0;have KL:=y6;have bL:=d4;obtain⟨vL,rfl⟩:∃ x:Value,x=B9:=⟨_,rfl⟩;obtain⟨gL,rfl⟩:∃ x:Nat,x=s8:=⟨_,rfl⟩;obtain⟨WL,rfl⟩:=Gy H0
       all_goals
        refine wpAnyL_o 9 λK hK=>?_;rw[Gx Ge];refine Zn6 _ (.tmp 68) (.tmp 70) 150 rfl W0.heap.size 39 iW Tryz.underlying150 hi E8 F5 C8 v2 _ rfl EL.2.1 _ (some ⟨gL,0,none⟩) 1 1 [⟨dn,dA,dk,dc,digits ((denTo row x:Nat):Int).natAbs⟩] rfl (Zur _ bL) rfl (by intro e he;rw[Qr]at he;subst he;exact⟨EL.2.2.2.1.2.2,EL.2.2.2.1.ok⟩) v9 KL.size ?_;intro J3 o9 A9 o3 z3 z5;obtain⟨f1,f2,f3,f4⟩:=EL.app c4 (OwnP.snoc A9 EL.2.2.2.1) o3 z3 z5;have v8:=KL.grownG o3 (λk hk=>EL.2.1.row_ge k hk);refine hK.out _ _ (λ_=>⟨by rw[f3.cell];rfl,by rw[f3.cell];rfl⟩) ?_;clear hK K
        try simp only[Qb,Zg9,Zgn,Zg3]
        obtain⟨a1,a2,a3,rfl⟩:=G0.isSlice;obtain⟨a4,a5,a6,rfl⟩:=I1.isSlice;obtain⟨a7,a8,a9,rfl⟩:=f1.1.isSlice;obtain⟨b1,b2,b3,rfl⟩:=f2.isSlice;have c9:=Zrt (x:=.slice a7 a8 a9) (y:=.slice b1 b2 b3) f3 (λk=>by simp) (λk=>by simp) (λk=>by simp) f1 s5 f2 s5;have r2:Kept (λk=>k=g3) W0 ((o9.setCell ⟨g3,0,none⟩ (.slice a7 a8 a9)).setCell ⟨g3,1,none⟩ (.slice b1 b2 b3)):=(v8.set_ (p:=⟨g3,0,none⟩) (.inl rfl) _).set_ (p:=⟨g3,1,none⟩) (.inl rfl) _;have f5:Blk (o9.setCell ⟨g3,0,none⟩ (.slice a7 a8 a9)) g3 152 #[.slice a7 a8 a9,.slice a4 a5 a6]:=f3.set_ 0 _;have υ0:o9.cell? ⟨g3,0,none⟩=some (.slice a1 a2 a3):=by rw[f3.cell];rfl
        have r6:=f3.frozen 0;have υ1:(o9.setCell ⟨g3,0,none⟩ (.slice a7 a8 a9)).cell? ⟨g3,1,none⟩=some (.slice a4 a5 a6):=by rw[f5.cell];rfl
        have q8:=f5.frozen 1;obtain⟨Z9,b5⟩:∃ Z,((o9.setCell ⟨g3,0,none⟩ (.slice a7 a8 a9)).setCell ⟨g3,1,none⟩ (.slice b1 b2 b3))=Z:=⟨_,rfl⟩;rw[b5]at c9 r2;replace c9:=Zd c9;replace r2:=Zd r2;clear f1 f2 f3;refine Zy (i:=11) rfl Gi Gi (λK hK=>?_);go_simp;refine hK.out _ _ ?_;clear hK K
        try simp only[Qb,Zg9,Zgn,Zg3]
        (refine Zl (i:=12) (v:=?_) rfl Gi Gi Gi Gi (QG ⟨by kernel_rfl,?_⟩) (λhno=>absurd hno Gj) ?_;rotate_left;(· intro W2 _;go_simp;try with_reducible rfl);try simp only[Qb,Zg9,Zgn,Zg3,Gr,Gq,Gp])
        refine Zy (i:=13) rfl Gi Gi (λK hK=>?_);go_simp;(try rw[b5]);refine hK.out _ _ ?_;clear hK K
        try simp only[Qb,Zg9,Zgn,Zg3]
        refine wpAnyL_fin ?_;clear b5 υ0 r6 υ1 q8 f5;go_wp2_with fail
        go_roundg (n-(i+1))
        case measure=>omega
        case rel =>
         refine⟨i+1,_,_,L ++ [⟨gO,q3⟩],by omega,by go_num,c9.out.1,c9.out.2.1,Zd ?_,?_,Zd f4,r2.out⟩
         ·rw[Qp,A7.out,List.take_add_one,Qp,Qh (by rw[hl.out];exact n0)]
          congr 1;have h1:=c0.out;rw[Qh (by rw[hl.out];exact n0)]at h1;simp only[QF]at h1;simp[E1.out,h1]
         rw[List.range_succ,Qp];have h1:=c9.out.2.2;rw[I2.out]at h1;exact h1
      | succ j =>
       obtain rfl:j=t-(x+1):=Gk;have s4:x<t:=Gk;have t3:decide ((x:Int)<(t:Int))=true:=Gv Gk;have bx:(x:Int)<(t:Int):=Gk;obtain⟨g1,o1,na,A2,n2,c2,nb,B2,m2,d2,rfl,h4,g2⟩:=(hF.out.below e6).at_ s4;obtain⟨p0,p1,p2,p3⟩:=h4;obtain⟨f,hf⟩:∃ X:Rat,row[x]?.getD 0=X:=⟨_,rfl⟩;rw[hf]at g2;have F1:Hid (((f.den:Nat):Int)≠0):=Zd (by have:=f.den_pos;omega)
       have z7:Hid ((f.num*Qw ((denTo row t:Nat):Int) ((f.den:Nat):Int)).natAbs<pw 4096):=Zd (by
        rw[Zkn]
        have h1:((denTo row t/f.den:Nat):Int).natAbs<pw 1000:=by
         rw[Qj];exact Qs (Nat.div_le_self _ _) (c8.out t (Qa t))
        have h2:f.num.natAbs<pw 1000:=by rw[<- hf];exact w5.out x
        exact Qd (Zjk h2 h1) (Zca Gj))
       obtain⟨gf,i3⟩:=Gz wr.heap.size;obtain⟨Vf,l2,c6,qf,kW,kB,sf⟩:=Zq 41 #[.bool na,.slice A2 n2 c2,.bool nb,.slice B2 m2 d2] (Qc wr.heap.size wr) (Qa _);have e9:=g2.below c6;have l0:=d7.below c6;have b4:=U.below c6 U.lt;have e7:=r9.below c6;rw[i3]at qf;obtain⟨s0,s1,s2,s3,-⟩:=qf.four;obtain⟨r0,r1,-,-⟩:=b4.two;obtain⟨n5,A5,k5,c5,υ0,υ1,-⟩:=e7.at_ (i:=x) (by rw[T.out];exact s4);have r6:=e7.frozen (x*2);have q8:=e7.frozen (x*2+1);have A0:Hid (Kept (λk=>k=gO) Wo Vf):=Zd (f8.below c6);replace e7:=Zd e7;replace hf:=Zd hf;clear g2 d7 U kW kB sf f8 qf b4 r9 l3 e6;go_wp2_with fail;(try rw[i3]);(try rw[l2]);clear l2 p0 p1 p2 p3;have C:Hid (∀ wx,Below Vf.heap.size Vf wx->wx.cell? ⟨gf,0,none⟩=some (.bool na)/\wx.cell? ⟨gf,1,none⟩=some (.slice A2 n2 c2)/\wx.cell? ⟨gf,2,none⟩=some (.bool nb)/\wx.cell? ⟨gf,3,none⟩=some (.slice B2 m2 d2)/\wx.cell? ⟨gd,0,none⟩=some (.bool dn)/\wx.cell? ⟨gd,1,none⟩=some (.slice dA dk dc)):=Zd (λwx hbx=>⟨Zc hbx s0,Zc hbx s1,Zc hbx s2,Zc hbx s3,Zc hbx r0,Zc hbx r1⟩);have J:Below Vf.heap.size Vf Vf.drew:=Zh (Qc _ _) 1;refine wp_heldS [10] hmx C J (λhxs9=>?_);refine Zgo 2 [0,1] rfl Gi (C.out _ J) ?_
       iterate 2 (refine tkA ?_;try simp only[Qb,Zg9,Zgn,Zg3,Gr,Gq,Gp])
       refine tk0 ?_;refine Zkb 5 [2,3,4,5,6] rfl Gi (C.out _ J) ?_
       iterate 5 (refine tkA ?_;try simp only[Qb,Zg9,Zgn,Zg3,Gr,Gq,Gp])
       refine tk0 ?_;refine wpAnyL_o 7 λK hK=>?_;go_simp;refine(Zqa dn nb dA B2 dk dc m2 d2 _ _ Vf.drew (l0.below J) (e9.2.below J) F1.out).mono ?_;rintro e w4 ⟨d9,y3,v4,A6,y9,rfl,d8⟩;have I:=Gs J d9;refine hK.out _ _ (λ_=>C.out _ I) ?_;clear hK K
       try simp only[Qb,Zg9,Zgn,Zg3]
       refine wpAnyL_o 8 λK hK=>?_;go_simp;refine(Zik na y3 A2 v4 n2 c2 A6 y9 _ _ w4 (e9.1.below I) d8 z7.out).mono ?_;rintro e x9 ⟨e3,o4,m4,o0,l7,rfl,e2⟩;have o:=Gs I e3;refine hK.out _ _ (λ_=>C.out _ o) ?_;clear hK K
       try simp only[Qb,Zg9,Zgn,Zg3]
       refine Zgo 1 [9] rfl Gi (C.out _ o) ?_
       (refine tkA ?_;try simp only[Qb,Zg9,Zgn,Zg3,Gr,Gq,Gp])
       refine tk0 ?_;have B1:=e7.out.below o;obtain⟨Z9,b5⟩:∃ W,(x9.setCell ⟨gO,x*2,none⟩ (.bool o4)).setCell ⟨gO,x*2+1,none⟩ (.slice m4 o0 l7)=W:=⟨_,rfl⟩;have v6:Hid (Kept (λk=>k=gO) Wo Z9):=Zd (by rw[<- b5];exact((A0.out.below o).set_ (p:=⟨gO,x*2,none⟩) (.inl rfl) _).set_ (p:=⟨gO,x*2+1,none⟩) (.inl rfl) _);have G2:Hid (POwn 39 Z9 gO (q3.set x (f.num*Qw ((denTo row t:Nat):Int) ((f.den:Nat):Int)))):=Zd (by rw[<- b5];exact B1.set_ (by rw[T.out];exact s4) e2);have g0:=Zc o υ0;have I9:=Zc o υ1;have f0:=Zo o υ0 r6;have f1:=Zo o υ1 q8;clear B1;refine Zy (i:=10) rfl Gi Gi (λK hK=>?_);go_simp;(try rw[b5]);refine hK.out _ _ ?_;clear hK K
       try simp only[Qb,Zg9,Zgn,Zg3]
       refine wpAnyL_fin ?_;clear b5 f0 f1 g0 I9 d9 e3 J I o C hxs9 r0 r1 s0 s1 s2 s3 d8 e2 l0 e9 e7 υ0 υ1 r6 q8;go_wp2_with fail
       go_roundg (t-(x+1))
       case measure=>omega
       case rel =>
        refine⟨x+1,_,by omega,by go_num,G2.out,Zd (by rw[Qo];exact T.out),Zd (λy=>?_),v6.out⟩;rw[Qe];by_cases hy:x=y
        ·subst hy
         rw[Gx rfl,Gx (by rw[T.out];exact s4),Gx Gk,Zkn,hf.out];rfl
        rw[Gw hy,B7.out y];by_cases h1:y<x;rw[Gx h1,Gx Gk];rw[Gw h1,Gw Gk]
    | succ j =>
     obtain rfl:j=n1-(t+1):=Gk;have I8:t<n1:=Gk;have t2:decide ((t:Int)<(n1:Int))=true:=Gv Gk;have bt:(t:Int)<(n1:Int):=Gk;obtain⟨g1,o1,na,A2,n2,c2,nb,B2,m2,d2,rfl,h4,g2⟩:=(hF.out.below e6).at_ I8;obtain⟨p0,p1,p2,p3⟩:=h4;obtain⟨f,hf⟩:∃ X:Rat,row[t]?.getD 0=X:=⟨_,rfl⟩;rw[hf]at g2;have J5:f.den<pw 1000:=by rw[<- hf];exact Qs (Zqr row (Qx t)) (c8.out (t+1) Gk)
     have l9:Hid (denTo row (t+1)=denTo row t*(f.den/QB (denTo row t) f.den)):=Zd (by rw[<- hf];rfl);have H9:0<QB (denTo row t) f.den:=Nat.gcd_pos_of_pos_left _ (Zeg row t)
     have I4:Hid (((QB (denTo row t) f.den:Nat):Int).natAbs<pw 4096):=Zd (by
      rw[Qj];exact Qs (Nat.le_of_dvd (Zeg row t) (Nat.gcd_dvd_left _ _)) (Qd (c8.out t Gk) (Zca Gj)))
     obtain⟨gf,i3⟩:=Gz wr.heap.size;obtain⟨Vf,l2,c6,qf,kW,kB,sf⟩:=Zq 41 #[.bool na,.slice A2 n2 c2,.bool nb,.slice B2 m2 d2] (Qc wr.heap.size wr) (Qa _);have e9:=g2.below c6;have l0:=d7.below c6;have b4:=U.below c6 U.lt;rw[i3]at qf;obtain⟨s0,s1,s2,s3,-⟩:=qf.four;obtain⟨r0,r1,-,-⟩:=b4.two;have A0:Hid (Kept (λk=>k=gd) V Vf):=Zd (n7.below c6);replace qf:=Zd qf;replace b4:=Zd b4;replace hf:=Zd hf;clear g2 d7 U kW kB sf n7;go_wp2_with fail;(try rw[i3]);(try rw[l2]);refine(Zk2 dn nb dA B2 dk dc m2 d2 _ _ Vf l0 e9.2).mono ?_;rw[Qj,Qj];rintro e w2 ⟨j9,n3,A3,k3,c3,code,rfl,hR⟩;have hG:=hR.small I4.out;have y7:=Ze j9 qf.out;have w8:=Ze j9 b4.out;have E3:=l0.below j9;have C2:=e9.2.below j9;have E0:Hid (Kept (λk=>k=gd) V w2):=Zd (A0.out.below j9);clear s0 s1 s2 s3 r0 r1 l0 e9 qf b4 j9 hR l2 p0 p1 p2 p3;obtain⟨gc,q2⟩:=Gz w2.heap.size;obtain⟨Vc,B5,h9,qc,kW,kB,sc⟩:=Zq 39 #[.bool n3,.slice A3 k3 c3] (Qc w2.heap.size w2) (Qa _);have D2:=hG.below h9;have D1:=E3.below h9;have E6:=C2.below h9;have D3:=y7.below h9 y7.lt;have k7:=w8.below h9 w8.lt;have I7:Hid (Kept (λk=>k=gd) V Vc):=Zd (E0.out.below h9);rw[q2]at qc;obtain⟨-,-,s2,s3,-⟩:=D3.four;obtain⟨r0,r1,C0,D5⟩:=k7.two;obtain⟨y0,y1,-,-⟩:=qc.two;have A4:Hid (((QB (denTo row t) f.den:Nat):Int)≠0):=Zd Gk
     have z7:Hid ((((denTo row t:Nat):Int)*Qw ((f.den:Nat):Int) ((QB (denTo row t) f.den:Nat):Int)).natAbs<pw 4096):=Zd (by
      rw[Zkn,<- QJ,<- l9.out,Qj];exact Qd (c8.out (t+1) Gk) (Zca Gj))
     replace k7:=Zd k7;clear hG E3 C2 y7 w8 D3 qc kW kB sc h9 E0;go_wp2_with fail;(try rw[q2]);(try rw[B5]);replace i3:=Zd i3;replace q2:=Zd q2;clear B5;have C:Hid (∀ wx,Below Vc.heap.size Vc wx->wx.cell? ⟨gd,0,none⟩=some (.bool dn)/\wx.cell? ⟨gd,1,none⟩=some (.slice dA dk dc)/\wx.cell? ⟨gf,2,none⟩=some (.bool nb)/\wx.cell? ⟨gf,3,none⟩=some (.slice B2 m2 d2)/\wx.cell? ⟨gc,0,none⟩=some (.bool n3)/\wx.cell? ⟨gc,1,none⟩=some (.slice A3 k3 c3)):=Zd (λwx hbx=>⟨Zc hbx r0,Zc hbx r1,Zc hbx s2,Zc hbx s3,Zc hbx y0,Zc hbx y1⟩);have J:Below Vc.heap.size Vc Vc.drew:=Zh (Qc _ _) 1;refine wp_heldS [6] hmx C J (λhxs9=>?_);refine Zkb 4 [0,1,2,3] rfl Gi (C.out _ J) ?_
     iterate 4 (refine tkA ?_;try simp only[Qb,Zg9,Zgn,Zg3,Gr,Gq,Gp])
     refine tk0 ?_;refine wpAnyL_o 4 λK hK=>?_;go_simp;refine(Zqa nb n3 B2 A3 m2 d2 k3 c3 _ _ Vc.drew (E6.below J) (D2.below J) A4.out).mono ?_;rintro e w4 ⟨d9,y3,v4,A6,y9,rfl,d8⟩;have I:=Gs J d9;refine hK.out _ _ (λ_=>C.out _ I) ?_;clear hK K
     try simp only[Qb,Zg9,Zgn,Zg3]
     refine wpAnyL_o 5 λK hK=>?_;go_simp;refine(Zik dn y3 dA v4 dk dc A6 y9 _ _ w4 (D1.below I) d8 z7.out).mono ?_;rintro e x9 ⟨e3,o4,m4,o0,l7,rfl,e2⟩;have o:=Gs I e3;refine hK.out _ _ (λ_=>C.out _ o) ?_;clear hK K
     try simp only[Qb,Zg9,Zgn,Zg3]
     obtain⟨Z9,b5,G4,q9,st⟩:=Zaz (B:=gd) o4 m4 o0 l7 (Qc gd x9) (Qa gd) (k7.out.below o k7.out.lt)
     have H5:Hid (Wd Z9 o4 m4 o0 l7 ((denTo row (t+1):Nat):Int)):=Zd (by
      have h1:=st.1 _ _ _ _ _ e2;rw[Zkn,<- QJ,<- l9.out]at h1;exact h1)
     have v6:Hid (Kept (λk=>k=gd) V Z9):=Zd (by rw[<- b5];exact((I7.out.below o).set_ (p:=⟨gd,0,none⟩) (.inl rfl) _).set_ (p:=⟨gd,1,none⟩) (.inl rfl) _);have g0:=Zc o r0;have g1:=Zc o r1;have f0:=Zo o r0 C0;have f1:=Zo o r1 D5;refine Zy (i:=6) rfl Gi Gi (λK hK=>?_);go_simp;(try rw[b5]);refine hK.out _ _ ?_;clear hK K
     try simp only[Qb,Zg9,Zgn,Zg3]
     refine wpAnyL_fin ?_;clear b5 f0 f1 g0 g1 d9 e3 J I o C hxs9 r0 r1 C0 D5 s2 s3 y0 y1 d8 e2 st G4 D2 D1 E6 k7;go_wp2_with fail
     go_roundg (n1-(t+1))
     case measure=>omega
     case rel=>exact⟨t+1,o4,m4,o0,l7,by omega,by go_num,q9,H5.out,v6.out⟩
def Zr8(Q:List (List Rat))(n m:Nat):Prop:=(∀ i k,i<n->k<=m->denTo (Q[i]?.getD []) k<pw 1000)/\∀ i j,(Zj Q i j).num.natAbs<pw 1000
