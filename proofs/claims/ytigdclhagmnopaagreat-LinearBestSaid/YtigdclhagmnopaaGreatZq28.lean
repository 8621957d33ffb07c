/- Package linear: eliminate. -/
import Derived.ScopeJumps
import Derived.WalkMore
import Derived.Test.YtigdclhagmnopaaGreatZq27
set_option maxRecDepth 100000
set_option maxHeartbeats 16000000
set_option linter.unusedSimpArgs false
set_option linter.unusedVariables false
namespace Go.Proofs.YtigdclhagmnopaaGreat
open Go.RowKit
attribute [local go_sem] Zh
theorem Zl8 {f c r:Nat} {Z:List (List Int)} {ng:Bool} {last:Int} (h:r=Z.length):Zae f c r Z ng last=(Z,r,ng,last):=by
 cases f with
 | zero=>rfl
 | succ f=>unfold Zae;rw [if_pos h]
theorem Zld {f c r q:Nat} {Z:List (List Int)} {ng:Bool} {last:Int} (h:r ≠ Z.length) (hq:Zbe (fun i=>Zaf Z i c == 0) Z.length Z.length r=q) (hn:q=Z.length):Zae (f+1) c r Z ng last=Zae f (c+1) r Z ng last:=by
 show (if r=Z.length then _ else _)=_;rw [if_neg h,hq,if_pos hn]
theorem Zln {f c r q:Nat} {Z:List (List Int)} {ng:Bool} {last:Int} (h:r ≠ Z.length) (hq:Zbe (fun i=>Zaf Z i c == 0) Z.length Z.length r=q) (hn:q ≠ Z.length):Zae (f+1) c r Z ng last=Zae f (c+1) (r+1) (Zc9 (Zai Z q r) r c last) (ng != decide (q ≠ r)) (Zaf Z q c):=by
 show (if r=Z.length then _ else _)=_;rw [if_neg h,hq,if_neg hn]
theorem Zvp {C m f c r:Nat} {Z:List (List Int)} {last:Int} (h:okZ C m f c r Z last):BdZ C m Z/\last ≠ 0/\last.natAbs < C:=by
 cases f with
 | zero=>exact h
 | succ f=>exact ⟨h.1,h.2.1⟩
theorem Zqk {C m f c r q:Nat} {Z:List (List Int)} {last:Int} (h:okZ C m (f+1) c r Z last) (h0:r ≠ Z.length) (hq:Zbe (fun i=>Zaf Z i c == 0) Z.length Z.length r=q) (hn:q=Z.length):okZ C m f (c+1) r Z last:=by
 rcases h.2.2 with h1 | h1
 ·exact absurd h1 h0
 ·exact h1.1 (by rw [hq];exact hn)
theorem Zqg {C m f c r q:Nat} {Z:List (List Int)} {last:Int} (h:okZ C m (f+1) c r Z last) (h0:r ≠ Z.length) (hq:Zbe (fun i=>Zaf Z i c == 0) Z.length Z.length r=q) (hn:q ≠ Z.length):okZ C m f (c+1) (r+1) (Zc9 (Zai Z q r) r c last) (Zaf Z q c):=by
 rcases h.2.2 with h1 | h1
 ·exact absurd h1 h0
 ·have:=h1.2 (by rw [hq];exact hn)
  rw [hq] at this;exact this
def ClzTo (L L2:List RZ) (r col:Nat) (last:Int) (i:Nat):Prop:=∀ j,j < L.length->Zas L2 j=if j <= r \/ i <= j then Zas L j else Zpj (Zas L r) (Zas L j) col ((Zas L r)[col]?.getD 0) last
theorem ClzTo.step {L L2:List RZ} {r col i:Nat} {last:Int} {x:RZ} (h:ClzTo L L2 r col last i) (hl:L2.length=L.length) (hi:i < L.length) (hri:r < i) (hx:x.q=Zpj (Zas L r) (Zas L i) col ((Zas L r)[col]?.getD 0) last):ClzTo L (L2.set i x) r col last (i+1):=by
 intro j hj;rw [Ztr (by omega),h j hj]
 by_cases hji:j=i
 ·subst hji;rw [if_pos rfl,hx,if_neg (by omega)]
 ·rw [if_neg hji]
  by_cases h1:j <= r \/ i <= j
  ·rw [if_pos h1,if_pos (by omega)]
  ·rw [if_neg h1,if_neg (by omega)]
theorem ClzTo.pass {L L2:List RZ} {r col i:Nat} {last:Int} (h:ClzTo L L2 r col last i) (hri:i <= r):ClzTo L L2 r col last (i+1):=by
 intro j hj;rw [h j hj]
 by_cases h1:j <= r \/ i <= j
 ·rw [if_pos h1,if_pos (by omega)]
 ·rw [if_neg h1,if_neg (by omega)]
theorem ClzTo.done {L L2:List RZ} {r col:Nat} {last:Int} (h:ClzTo L L2 r col last L.length) (hl:L2.length=L.length):L2.map RZ.q=Zc9 (L.map RZ.q) r col last:=by
 refine Zwf (by rw [Zh9];simpa using hl) (fun i hi=>?_);rw [Zh9,List.length_map] at hi;rw [h i hi,Zrb (by simpa using hi),<- Zju,<- Zju,Zjk]
 by_cases h1:i <= r
 ·rw [if_pos (Or.inl h1),if_pos h1]
 ·rw [if_neg (by omega),if_neg h1]
theorem Exit.jump_mono {l:Nat} {J J':Act->World->Prop} {Q:Exit->Act->World->Prop} (h:∀ a w,J a w->J' a w):∀ e a w,Exit.jump l J Q e a w->Exit.jump l J' Q e a w:=fun e a w he=>by
 cases e <;> first | exact he | exact ⟨he.1,h _ _ he.2⟩
theorem Zme {P:Program} {a:Act} {w:World} {Q:Exit->Act->World->Prop} {c rest:Code} (l:Nat) (J:Act->World->Prop) (μ:Act->World->Nat) (hf:findLabel c l=some (Code.skip.seq rest))
    (pass:∀ a w,J a w->rest.wp P (Exit.jump l (fun a' w'=>J a' w'/\μ a' w' < μ a w) Q) a w)
    (first:(∀ a w,J a w->rest.wp P (Exit.jump l J Q) a w)->c.wp P (Exit.jump l J Q) a w):(Code.scope c).wp P Q a w:=
 wp_scope_jumps l J μ hf (first fun a w h=>wp_mono (pass a w h) (Exit.jump_mono fun _ _ h=>h.1)) (fun a w h=>wp_seq (wp_skip (pass a w h)))
theorem Zrl (k r:Nat):swI k r r=k:=by unfold swI;split;assumption;rw [if_pos rfl]
theorem Zq2 {α:Type} (l:List α) (i:Nat):Zai l i i=l:=by
 apply List.ext_getElem?
 intro j;unfold Zai
 cases h:l[i]? with
 | none=>rfl
 | some x =>
  have hi:=(List.getElem?_eq_some_iff.1 h).1;simp only;rw [List.getElem?_set,List.getElem?_set,List.length_set]
  by_cases hij:i=j
  ·subst hij;rw [if_pos rfl,if_pos hi,h]
  ·rw [if_neg hij,if_neg hij]
theorem Kept.and {G H:Nat->Prop} {w W V:World} (h1:Kept G w W) (h2:Kept H W V) (hG:∀ k,k < w.heap.size->H k->G k):Kept G w V:=
 ⟨h2.os.trans h1.os,h2.tape.trans h1.tape,h2.output.trans h1.output,Nat.le_trans h1.size h2.size,fun k hk hg=>(h2.block k (Nat.lt_of_lt_of_le hk h1.size) (fun h=>hg (hG k hk h))).trans (h1.block k hk hg)⟩
theorem Zil {a b:Int} {i j:Nat} (h:a.natAbs < pw i) (g:b.natAbs < pw j):(a * b).natAbs < pw (i+j):=by rw [Int.natAbs_mul];exact Zhj h g
theorem Zri {a b:Int} {i:Nat} (h:a.natAbs < pw i) (g:b.natAbs < pw i):(a - b).natAbs < pw (i+1):=by
 have:=Zig i;omega
theorem Kept.shrink {G G':Nat->Prop} {w W V:World} (h1:Below w.heap.size w W) (h2:Kept G W V) (hG:∀ k,k < w.heap.size->G k->G' k):Kept G' w V:=
 ⟨h2.os.trans h1.os,h2.tape.trans h1.tape,h2.output.trans h1.output,Nat.le_trans h1.size h2.size,fun k hk hg=>(h2.block k (Nat.lt_of_lt_of_le hk h1.size) (fun h=>hg (hG k hk h))).trans (h1.block k hk)⟩
theorem Zuh (T:Array Value):∀ i,i < 118->∀ h:i < (#[T.getD 0 undef,T.getD 1 undef,T.getD 2 undef,T.getD 3 undef,T.getD 4 undef,T.getD 5 undef,T.getD 6 undef,T.getD 7 undef,T.getD 8 undef,T.getD 9 undef,T.getD 10 undef,T.getD 11 undef,T.getD 12 undef,T.getD 13 undef,T.getD 14 undef,T.getD 15 undef,T.getD 16 undef,T.getD 17 undef,T.getD 18 undef,T.getD 19 undef,T.getD 20 undef,T.getD 21 undef,T.getD 22 undef,T.getD 23 undef,T.getD 24 undef,T.getD 25 undef,T.getD 26 undef,T.getD 27 undef,T.getD 28 undef,T.getD 29 undef,T.getD 30 undef,T.getD 31 undef,T.getD 32 undef,T.getD 33 undef,T.getD 34 undef,T.getD 35 undef,T.getD 36 undef,T.getD 37 undef,T.getD 38 undef,T.getD 39 undef,T.getD 40 undef,T.getD 41 undef,T.getD 42 undef,T.getD 43 undef,T.getD 44 undef,T.getD 45 undef,T.getD 46 undef,T.getD 47 undef,T.getD 48 undef,T.getD 49 undef,T.getD 50 undef,T.getD 51 undef,T.getD 52 undef,T.getD 53 undef,T.getD 54 undef,T.getD 55 undef,T.getD 56 undef,T.getD 57 undef,T.getD 58 undef,T.getD 59 undef,T.getD 60 undef,T.getD 61 undef,T.getD 62 undef,T.getD 63 undef,T.getD 64 undef,T.getD 65 undef,T.getD 66 undef,T.getD 67 undef,T.getD 68 undef,T.getD 69 undef,T.getD 70 undef,T.getD 71 undef,T.getD 72 undef,T.getD 73 undef,T.getD 74 undef,T.getD 75 undef,T.getD 76 undef,T.getD 77 undef,T.getD 78 undef,T.getD 79 undef,T.getD 80 undef,T.getD 81 undef,T.getD 82 undef,T.getD 83 undef,T.getD 84 undef,T.getD 85 undef,T.getD 86 undef,T.getD 87 undef,T.getD 88 undef,T.getD 89 undef,T.getD 90 undef,T.getD 91 undef,T.getD 92 undef,T.getD 93 undef,T.getD 94 undef,T.getD 95 undef,T.getD 96 undef,T.getD 97 undef,T.getD 98 undef,T.getD 99 undef,T.getD 100 undef,T.getD 101 undef,T.getD 102 undef,T.getD 103 undef,T.getD 104 undef,T.getD 105 undef,T.getD 106 undef,T.getD 107 undef,T.getD 108 undef,T.getD 109 undef,T.getD 110 undef,T.getD 111 undef,T.getD 112 undef,T.getD 113 undef,T.getD 114 undef,T.getD 115 undef,T.getD 116 undef,T.getD 117 undef]:Array Value).size,T.getD i undef=(#[T.getD 0 undef,T.getD 1 undef,T.getD 2 undef,T.getD 3 undef,T.getD 4 undef,T.getD 5 undef,T.getD 6 undef,T.getD 7 undef,T.getD 8 undef,T.getD 9 undef,T.getD 10 undef,T.getD 11 undef,T.getD 12 undef,T.getD 13 undef,T.getD 14 undef,T.getD 15 undef,T.getD 16 undef,T.getD 17 undef,T.getD 18 undef,T.getD 19 undef,T.getD 20 undef,T.getD 21 undef,T.getD 22 undef,T.getD 23 undef,T.getD 24 undef,T.getD 25 undef,T.getD 26 undef,T.getD 27 undef,T.getD 28 undef,T.getD 29 undef,T.getD 30 undef,T.getD 31 undef,T.getD 32 undef,T.getD 33 undef,T.getD 34 undef,T.getD 35 undef,T.getD 36 undef,T.getD 37 undef,T.getD 38 undef,T.getD 39 undef,T.getD 40 undef,T.getD 41 undef,T.getD 42 undef,T.getD 43 undef,T.getD 44 undef,T.getD 45 undef,T.getD 46 undef,T.getD 47 undef,T.getD 48 undef,T.getD 49 undef,T.getD 50 undef,T.getD 51 undef,T.getD 52 undef,T.getD 53 undef,T.getD 54 undef,T.getD 55 undef,T.getD 56 undef,T.getD 57 undef,T.getD 58 undef,T.getD 59 undef,T.getD 60 undef,T.getD 61 undef,T.getD 62 undef,T.getD 63 undef,T.getD 64 undef,T.getD 65 undef,T.getD 66 undef,T.getD 67 undef,T.getD 68 undef,T.getD 69 undef,T.getD 70 undef,T.getD 71 undef,T.getD 72 undef,T.getD 73 undef,T.getD 74 undef,T.getD 75 undef,T.getD 76 undef,T.getD 77 undef,T.getD 78 undef,T.getD 79 undef,T.getD 80 undef,T.getD 81 undef,T.getD 82 undef,T.getD 83 undef,T.getD 84 undef,T.getD 85 undef,T.getD 86 undef,T.getD 87 undef,T.getD 88 undef,T.getD 89 undef,T.getD 90 undef,T.getD 91 undef,T.getD 92 undef,T.getD 93 undef,T.getD 94 undef,T.getD 95 undef,T.getD 96 undef,T.getD 97 undef,T.getD 98 undef,T.getD 99 undef,T.getD 100 undef,T.getD 101 undef,T.getD 102 undef,T.getD 103 undef,T.getD 104 undef,T.getD 105 undef,T.getD 106 undef,T.getD 107 undef,T.getD 108 undef,T.getD 109 undef,T.getD 110 undef,T.getD 111 undef,T.getD 112 undef,T.getD 113 undef,T.getD 114 undef,T.getD 115 undef,T.getD 116 undef,T.getD 117 undef]:Array Value)[i]
 | 0,_,_=>rfl
 | 1,_,_=>rfl
 | 2,_,_=>rfl
 | 3,_,_=>rfl
 | 4,_,_=>rfl
 | 5,_,_=>rfl
 | 6,_,_=>rfl
 | 7,_,_=>rfl
 | 8,_,_=>rfl
 | 9,_,_=>rfl
 | 10,_,_=>rfl
 | 11,_,_=>rfl
 | 12,_,_=>rfl
 | 13,_,_=>rfl
 | 14,_,_=>rfl
 | 15,_,_=>rfl
 | 16,_,_=>rfl
 | 17,_,_=>rfl
 | 18,_,_=>rfl
 | 19,_,_=>rfl
 | 20,_,_=>rfl
 | 21,_,_=>rfl
 | 22,_,_=>rfl
 | 23,_,_=>rfl
 | 24,_,_=>rfl
 | 25,_,_=>rfl
 | 26,_,_=>rfl
 | 27,_,_=>rfl
 | 28,_,_=>rfl
 | 29,_,_=>rfl
 | 30,_,_=>rfl
 | 31,_,_=>rfl
 | 32,_,_=>rfl
 | 33,_,_=>rfl
 | 34,_,_=>rfl
 | 35,_,_=>rfl
 | 36,_,_=>rfl
 | 37,_,_=>rfl
 | 38,_,_=>rfl
 | 39,_,_=>rfl
 | 40,_,_=>rfl
 | 41,_,_=>rfl
 | 42,_,_=>rfl
 | 43,_,_=>rfl
 | 44,_,_=>rfl
 | 45,_,_=>rfl
 | 46,_,_=>rfl
 | 47,_,_=>rfl
 | 48,_,_=>rfl
 | 49,_,_=>rfl
 | 50,_,_=>rfl
 | 51,_,_=>rfl
 | 52,_,_=>rfl
 | 53,_,_=>rfl
 | 54,_,_=>rfl
 | 55,_,_=>rfl
 | 56,_,_=>rfl
 | 57,_,_=>rfl
 | 58,_,_=>rfl
 | 59,_,_=>rfl
 | 60,_,_=>rfl
 | 61,_,_=>rfl
 | 62,_,_=>rfl
 | 63,_,_=>rfl
 | 64,_,_=>rfl
 | 65,_,_=>rfl
 | 66,_,_=>rfl
 | 67,_,_=>rfl
 | 68,_,_=>rfl
 | 69,_,_=>rfl
 | 70,_,_=>rfl
 | 71,_,_=>rfl
 | 72,_,_=>rfl
 | 73,_,_=>rfl
 | 74,_,_=>rfl
 | 75,_,_=>rfl
 | 76,_,_=>rfl
 | 77,_,_=>rfl
 | 78,_,_=>rfl
 | 79,_,_=>rfl
 | 80,_,_=>rfl
 | 81,_,_=>rfl
 | 82,_,_=>rfl
 | 83,_,_=>rfl
 | 84,_,_=>rfl
 | 85,_,_=>rfl
 | 86,_,_=>rfl
 | 87,_,_=>rfl
 | 88,_,_=>rfl
 | 89,_,_=>rfl
 | 90,_,_=>rfl
 | 91,_,_=>rfl
 | 92,_,_=>rfl
 | 93,_,_=>rfl
 | 94,_,_=>rfl
 | 95,_,_=>rfl
 | 96,_,_=>rfl
 | 97,_,_=>rfl
 | 98,_,_=>rfl
 | 99,_,_=>rfl
 | 100,_,_=>rfl
 | 101,_,_=>rfl
 | 102,_,_=>rfl
 | 103,_,_=>rfl
 | 104,_,_=>rfl
 | 105,_,_=>rfl
 | 106,_,_=>rfl
 | 107,_,_=>rfl
 | 108,_,_=>rfl
 | 109,_,_=>rfl
 | 110,_,_=>rfl
 | 111,_,_=>rfl
 | 112,_,_=>rfl
 | 113,_,_=>rfl
 | 114,_,_=>rfl
 | 115,_,_=>rfl
 | 116,_,_=>rfl
 | 117,_,_=>rfl
 | n+118,h,_=>absurd h (by omega)
theorem Zk5 {T:Array Value} {v0 v1 v2 v4 v5 v6 v7:Value} {p:Prop} (hs:T.size=118) (h0:T.getD 0 undef=v0) (h1:T.getD 1 undef=v1) (h2:T.getD 2 undef=v2) (h4:T.getD 4 undef=v4) (h5:T.getD 5 undef=v5) (h6:T.getD 6 undef=v6) (h7:T.getD 7 undef=v7) (hp:p) :
    ∃ u:Nat->Value,({ tmps:=T,defers:=[] }:Act)={ tmps:=#[v0,v1,v2,u 3,v4,v5,v6,v7,u 8,u 9,u 10,u 11,u 12,u 13,u 14,u 15,u 16,u 17,u 18,u 19,u 20,u 21,u 22,u 23,u 24,u 25,u 26,u 27,u 28,u 29,u 30,u 31,u 32,u 33,u 34,u 35,u 36,u 37,u 38,u 39,u 40,u 41,u 42,u 43,u 44,u 45,u 46,u 47,u 48,u 49,u 50,u 51,u 52,u 53,u 54,u 55,u 56,u 57,u 58,u 59,u 60,u 61,u 62,u 63,u 64,u 65,u 66,u 67,u 68,u 69,u 70,u 71,u 72,u 73,u 74,u 75,u 76,u 77,u 78,u 79,u 80,u 81,u 82,u 83,u 84,u 85,u 86,u 87,u 88,u 89,u 90,u 91,u 92,u 93,u 94,u 95,u 96,u 97,u 98,u 99,u 100,u 101,u 102,u 103,u 104,u 105,u 106,u 107,u 108,u 109,u 110,u 111,u 112,u 113,u 114,u 115,u 116,u 117],defers:=[] }/\p:=by
 refine ⟨fun k=>T.getD k undef,?_,hp⟩;subst h0 h1 h2 h4 h5 h6 h7
 congr 1
 apply Array.ext
 ·rw [hs];rfl
 ·intro i hi1 hi2
  have hi:i < 118:=by omega
  have hT:T[i]=T.getD i undef:=by rw [Array.getD_eq_getD_getElem?,Array.getElem?_eq_getElem hi1];rfl
  rw [hT];clear hT hi1;exact Zuh T i hi hi2
def colOf:Value->Int | .int _ q=>q | _=>0
theorem Ze7 (go n cap:Nat) (L0:List RZ) (vby:Value) (m cols:Nat) (w:World) (hM:MatZ 89 43 w go L0) (hn:L0.length=n) (hn0:0 < n) (hn9:n <= 900) (hcap:n <= cap) (hcm:cap <= maxLen) (hcs:cols <= m) (hm9:m <= 900)
    (hok:okZ (pw 200) m cols 0 0 (L0.map RZ.q) 1) :
    Calls Tryz.prog 51 #[.agg #[.slice (some ⟨go,0,none⟩) n cap,vby],.int .i64 cols] w fun e w'=>∃ L2 ln lA lk lc,
     e=.returned (.tuple #[.int .i64 ((Zae cols 0 0 (L0.map RZ.q) false 1).2.1:Nat),.bool (Zae cols 0 0 (L0.map RZ.q) false 1).2.2.1,.agg #[.bool ln,.slice lA lk lc]])/\Wd w' ln lA lk lc (Zae cols 0 0 (L0.map RZ.q) false 1).2.2.2 /\
     L2.length=n/\(∀ g ∈ L2.map RZ.g,g ∈ L0.map RZ.g)/\L2.map RZ.q=(Zae cols 0 0 (L0.map RZ.q) false 1).1/\MatZ 89 43 w' go L2/\Kept (fun g=>g=go \/ g ∈ L0.map RZ.g) w w':=by
 have hmx:Tryz.prog.follows .mixedOrders=true:=by kernel_rfl
 have hcm0:=hcm;unfold maxLen at hcm;obtain ⟨FIN,hFIN⟩:∃ X,Zae cols 0 0 (L0.map RZ.q) false 1=X:=⟨_,rfl⟩;rw [hFIN];replace hFIN:=Za hFIN;replace hok:=Za hok;replace hn:=Za hn;obtain ⟨W0,hW0,hB0,⟨q0,q1,q2,q3⟩,s0⟩:=Zft w 91 #[.slice (some ⟨go,0,none⟩) n cap,vby] 3 #[.int .i64 0] 4 #[.bool false] 43 #[.bool false,.slice none 0 0];obtain ⟨gg,hgg⟩:∃ g,w.heap.size=g:=⟨_,rfl⟩;rw [hgg] at q0 q1 q2 q3 s0 hB0;go_enter Tryz.func51,Tryz.ntmps51;go_wp2_with fail;(try rw [hW0]);(try rw [hgg]);obtain ⟨gr,hgr⟩:∃ g,gg+1=g:=⟨_,rfl⟩;rw [hgr] at q1 q2 q3 ⊢;obtain ⟨gn,hgn⟩:∃ g,gr+1=g:=⟨_,rfl⟩;rw [hgn] at q2 q3 ⊢;obtain ⟨gl,hgl⟩:∃ g,gn+1=g:=⟨_,rfl⟩;rw [hgl] at q3 ⊢
 have hsz:W0.heap.size=gl+1:=by rw [s0];omega
 have hM0:=hM.below (by rw [hgg];exact hB0:Below w.heap.size w W0)
 have hlt:∀ k,(k=go \/ k ∈ L0.map RZ.g)->k < gg:=fun k hk=>by
  obtain ⟨t,cs,hb,-⟩:=hM.boxes k hk;rw [<- hgg];exact hb.lt
 have hD:Hid (gg < gr/\gr < gn/\gn < gl/\(∀ k,(k=go \/ k ∈ L0.map RZ.g)->k < gg)):=Za ⟨by omega,by omega,by omega,hlt⟩;have hMw:=Za hM;clear hgr hgn hgl s0 hM hM0 hW0;replace hgg:=Za hgg;replace hB0:=Za hB0
 refine Zme 0 (fun a' w'=>∃ (c r:Nat) (ng:Bool) (last:Int) (ln:Bool) (lA:Option Addr) (lk lc:Nat) (L2:List RZ) (u:Nat->Value),a'={ tmps:=#[.agg #[.slice (some ⟨go,0,none⟩) n cap,vby],.int .i64 cols,.pointer (some ⟨gg,0,none⟩),u 3,.pointer (some ⟨gr,0,none⟩),.pointer (some ⟨gn,0,none⟩),.pointer (some ⟨gl,0,none⟩),.int .i64 c,u 8,u 9,u 10,u 11,u 12,u 13,u 14,u 15,u 16,u 17,u 18,u 19,u 20,u 21,u 22,u 23,u 24,u 25,u 26,u 27,u 28,u 29,u 30,u 31,u 32,u 33,u 34,u 35,u 36,u 37,u 38,u 39,u 40,u 41,u 42,u 43,u 44,u 45,u 46,u 47,u 48,u 49,u 50,u 51,u 52,u 53,u 54,u 55,u 56,u 57,u 58,u 59,u 60,u 61,u 62,u 63,u 64,u 65,u 66,u 67,u 68,u 69,u 70,u 71,u 72,u 73,u 74,u 75,u 76,u 77,u 78,u 79,u 80,u 81,u 82,u 83,u 84,u 85,u 86,u 87,u 88,u 89,u 90,u 91,u 92,u 93,u 94,u 95,u 96,u 97,u 98,u 99,u 100,u 101,u 102,u 103,u 104,u 105,u 106,u 107,u 108,u 109,u 110,u 111,u 112,u 113,u 114,u 115,u 116,u 117],defers:=[] }/\c <= cols/\r <= n /\
     Blk w' gr 3 #[.int .i64 r]/\Blk w' gn 4 #[.bool ng]/\Blk w' gl 43 #[.bool ln,.slice lA lk lc]/\Wd w' ln lA lk lc last/\MatZ 89 43 w' go L2/\L2.length=n/\(∀ g ∈ L2.map RZ.g,g ∈ L0.map RZ.g) /\
     Zae (cols - c) c r (L2.map RZ.q) ng last=FIN/\okZ (pw 200) m (cols - c) c r (L2.map RZ.q) last/\Kept (fun k=>k=go \/ k ∈ L0.map RZ.g \/ k=gr \/ k=gn \/ k=gl) W0 w') (fun a' _=>cols - (colOf (a'.tmps.getD 7 undef)).toNat) rfl ?pass ?first
 case first =>
  intro hpass;go_wp2_with fail;refine (Za5 1 W0 (by decide) (by decide)).mono ?_;rintro e w1 ⟨hb1,ln,lA,lk,lc,rfl,hN⟩;obtain ⟨e1,e2,e3,e4⟩:=hD.out;have k3:=Zc hb1 q3;obtain ⟨y0,y1,y2,y3⟩:=k3.two;obtain ⟨X,hX,hBX,q4,st⟩:=Zav ln lA lk lc (hb1.mono (by omega:gl <= W0.heap.size)) (Nat.le_refl gl) k3;have k1:=q1.below hBX (by omega);have k2:=q2.below hBX (by omega);have hMX:=hMw.out.below (by rw [hgg.out];exact hB0.out.trans (hBX.mono (by omega)):Below w.heap.size w X)
  have hKX:Kept (fun k=>k=go \/ k ∈ L0.map RZ.g \/ k=gr \/ k=gn \/ k=gl) W0 X:=by
   rw [<- hX];exact ((Kept.of_below hb1).set_ (p:=⟨gl,0,none⟩) (.inl (.inr (.inr (.inr (.inr rfl))))) _).set_ (p:=⟨gl,1,none⟩) (.inl (.inr (.inr (.inr (.inr rfl))))) _
  have hNX:=st.1 _ _ _ _ _ hN;go_wp2_with fail;(try rw [hX]);refine wp_label ?_;refine (by assumption:∀ a w,Code.wp _ _ _ a w->_) _ _ ?_;exact hpass _ _ ⟨0,0,false,1,ln,lA,lk,lc,L0,Zk5 rfl rfl rfl rfl rfl rfl rfl rfl ⟨Nat.zero_le _,Nat.zero_le _,k1,k2,q4,hNX,hMX,hn.out,fun g h=>h,hFIN.out,hok.out,hKX⟩⟩
 case pass =>
  rintro a' wA ⟨c,r,ng,last,ln,lA,lk,lc,L2,u,rfl,hcc,hrn,b1,b2,b3,hwl,hM2,hl2,hg2,hE,hok2,hK⟩;obtain ⟨e1,e2,e3,e4⟩:=hD.out
  have d1:gr ≠ gn:=by omega
  have d3:gr ≠ gl:=by omega
  have d4:gn ≠ gl:=by omega
  have b0:Blk wA gg 91 #[.slice (some ⟨go,0,none⟩) n cap,vby]:=hK.blk q0 (fun h=>by
   rcases h with h | h | h | h | h
   ·have:=e4 gg (.inl h);omega
   ·have:=e4 gg (.inr h);omega
   ·omega
   ·omega
   ·omega)
  obtain ⟨x0,-,-,-⟩:=b0.two;have hbd:=Za (Zvp hok2);have hR2:Hid ((L2.map RZ.q).length=n):=Za (by rw [List.length_map];exact hl2)
  by_cases hc:c=cols
  case pos =>
   have t1:((c:Int) == (cols:Int))=true:=beq_iff_eq.2 (by omega);have t1':decide (c=cols)=true:=decide_eq_true hc;replace hc:=Za hc;have hE2:Hid ((L2.map RZ.q,r,ng,last)=FIN):=Za (by rw [<- hE];exact (by have h:=hc.out;subst h;rw [Nat.sub_self];rfl));obtain ⟨X,hX,hBX,q4,st⟩:=Zav (B:=gl) ln lA lk lc (Below.refl gl ((wA.setCell ⟨gr,0,none⟩ (.int .i64 r)).setCell ⟨gn,0,none⟩ (.bool ng))) (Nat.le_refl gl) ((b3.far (Ne.symm d3) _).far (Ne.symm d4) _)
   have x1:Blk X gr 3 #[.int .i64 r]:=by rw [<- hX];exact ((((b1.set_ 0 (.int .i64 r)).far d1 _).far d3 _).far d3 _)
   have x2:Blk X gn 4 #[.bool ng]:=by rw [<- hX];exact (((b2.far (Ne.symm d1) _).set_ 0 (.bool ng)).far d4 _).far d4 _
   have hKX0:Kept (fun k=>k=gr \/ k=gn \/ k=gl) wA X:=by
    rw [<- hX];exact ((((Kept.refl _ wA).set_ (p:=⟨gr,0,none⟩) (.inl (.inl rfl)) _).set_ (p:=⟨gn,0,none⟩) (.inl (.inr (.inl rfl))) _).set_ (p:=⟨gl,0,none⟩) (.inl (.inr (.inr rfl))) _).set_ (p:=⟨gl,1,none⟩) (.inl (.inr (.inr rfl))) _
   have hbox:∀ k,(k=gr \/ k=gn \/ k=gl)->∃ t cs,Blk wA k t cs/\NoLimb cs:=fun k hk=>by
    rcases hk with rfl | rfl | rfl
    ·exact ⟨_,_,b1,Ze6 (fun x=>by simp)⟩
    ·exact ⟨_,_,b2,Ze6 (fun x=>by simp)⟩
    ·exact ⟨_,_,b3,Zbz _ _ _ _⟩
   have hMX:Hid (MatZ 89 43 X go L2):=Za (hM2.keptG hKX0 (fun h=>by have:=e4 go (.inl rfl);omega) (fun s hs h=>by have:=e4 s.g (.inr (hg2 _ (List.mem_map.2 ⟨s,hs,rfl⟩)));omega) hbox);have hNX:Hid (Wd X ln lA lk lc last):=Za (hKX0.wd hwl hbox)
   have hKX:Hid (Kept (fun g=>g=go \/ g ∈ L0.map RZ.g) w X):=Za (Kept.shrink (by rw [hgg.out];exact hB0.out) (hK.trans (hKX0.mono (fun k _ h=>by rcases h with h | h | h <;> simp [h]))) (fun k hk h=>by
    rw [hgg.out] at hk
    rcases h with h | h | h | h | h
    ·exact .inl h
    ·exact .inr h
    ·omega
    ·omega
    ·omega))
   have c1:wA.cell? ⟨gr,0,none⟩=some (.int .i64 r):=by rw [b1.cell];rfl
   have z1:=b1.frozen 0
   have c2:wA.cell? ⟨gn,0,none⟩=some (.bool ng):=by rw [b2.cell];rfl
   have z2:=b2.frozen 0;obtain ⟨c3,c4,z3,z4⟩:=b3.two;have b2':=b2.far (p:=⟨gr,0,none⟩) (Ne.symm d1) (Value.int .i64 r)
   have c2':(wA.setCell ⟨gr,0,none⟩ (.int .i64 r)).cell? ⟨gn,0,none⟩=some (.bool ng):=by rw [b2'.cell];rfl
   have z2':=b2'.frozen 0;obtain ⟨c3',c4',z3',z4'⟩:=(b3.far (p:=⟨gr,0,none⟩) (Ne.symm d3) (Value.int .i64 r)).two
   have c1':(wA.setCell ⟨gr,0,none⟩ (.int .i64 r)).cell? ⟨gr,0,none⟩=some (.int .i64 r):=by rw [(b1.set_ 0 (.int .i64 r)).cell];rfl
   have c1'':((wA.setCell ⟨gr,0,none⟩ (.int .i64 r)).setCell ⟨gn,0,none⟩ (.bool ng)).cell? ⟨gr,0,none⟩=some (.int .i64 r):=by rw [((b1.set_ 0 (.int .i64 r)).far (p:=⟨gn,0,none⟩) d1 _).cell];rfl
   have c2'':((wA.setCell ⟨gr,0,none⟩ (.int .i64 r)).setCell ⟨gn,0,none⟩ (.bool ng)).cell? ⟨gn,0,none⟩=some (.bool ng):=by rw [(b2'.set_ 0 (.bool ng)).cell];rfl
   have z2'':=(b2'.set_ 0 (.bool ng)).frozen 0;obtain ⟨c3'',c4'',z3'',z4''⟩:=((b3.far (p:=⟨gr,0,none⟩) (Ne.symm d3) (Value.int .i64 r)).far (p:=⟨gn,0,none⟩) (Ne.symm d4) (Value.bool ng)).two;obtain ⟨y3,y4,-,-⟩:=q4.two
   have y1:X.cell? ⟨gr,0,none⟩=some (.int .i64 r):=by rw [x1.cell];rfl
   have y2:X.cell? ⟨gn,0,none⟩=some (.bool ng):=by rw [x2.cell];rfl
   clear b1 b2 b3 b2' hM2 hwl hK hE hok2 st hBX hKX0 hbox;go_wp2_with fail;have hS0:wA.drew.cell? ⟨gr,0,none⟩=some (.int .i64 r)/\wA.drew.cell? ⟨gn,0,none⟩=some (.bool ng)/\wA.drew.cell? ⟨gl,0,none⟩=some (.bool ln)/\wA.drew.cell? ⟨gl,1,none⟩=some (.slice lA lk lc):=⟨c1,c2,c3,c4⟩;have hS1:(wA.setCell ⟨gr,0,none⟩ (.int .i64 r)).drew.cell? ⟨gr,0,none⟩=some (.int .i64 r)/\(wA.setCell ⟨gr,0,none⟩ (.int .i64 r)).drew.cell? ⟨gn,0,none⟩=some (.bool ng)/\(wA.setCell ⟨gr,0,none⟩ (.int .i64 r)).drew.cell? ⟨gl,0,none⟩=some (.bool ln)/\(wA.setCell ⟨gr,0,none⟩ (.int .i64 r)).drew.cell? ⟨gl,1,none⟩=some (.slice lA lk lc):=⟨c1',c2',c3',c4'⟩;have hS2:((wA.setCell ⟨gr,0,none⟩ (.int .i64 r)).setCell ⟨gn,0,none⟩ (.bool ng)).drew.cell? ⟨gr,0,none⟩=some (.int .i64 r)/\((wA.setCell ⟨gr,0,none⟩ (.int .i64 r)).setCell ⟨gn,0,none⟩ (.bool ng)).drew.cell? ⟨gn,0,none⟩=some (.bool ng)/\((wA.setCell ⟨gr,0,none⟩ (.int .i64 r)).setCell ⟨gn,0,none⟩ (.bool ng)).drew.cell? ⟨gl,0,none⟩=some (.bool ln)/\((wA.setCell ⟨gr,0,none⟩ (.int .i64 r)).setCell ⟨gn,0,none⟩ (.bool ng)).drew.cell? ⟨gl,1,none⟩=some (.slice lA lk lc):=⟨c1'',c2'',c3'',c4''⟩;have hS3:X.drew.cell? ⟨gr,0,none⟩=some (.int .i64 r)/\X.drew.cell? ⟨gn,0,none⟩=some (.bool ng)/\X.drew.cell? ⟨gl,0,none⟩=some (.bool ln)/\X.drew.cell? ⟨gl,1,none⟩=some (.slice lA lk lc):=⟨y1,y2,y3,y4⟩
   refine Zaj [] (fun wx=>wx.cell? ⟨gr,0,none⟩=some (.int .i64 r)/\wx.cell? ⟨gn,0,none⟩=some (.bool ng)/\wx.cell? ⟨gl,0,none⟩=some (.bool ln)/\wx.cell? ⟨gl,1,none⟩=some (.slice lA lk lc)) hmx hS0 (fun hxs=>?_);refine Zi4 3 [0,1,2] rfl (by kernel_rfl) hS0 ?_
   iterate 3 (refine tk1 (v:=?_) rfl (Or.inl ⟨by kernel_rfl,?_⟩) ?_;rotate_left;(· intro W2 hSw;(try dsimp only at hSw);go_simp;try with_reducible rfl);try simp only [Act.put,Zgj,Zfx,Zge,putG_a,putG_s,putG_z])
   refine tk0 ?_;refine Ze (i:=3) rfl (by kernel_rfl) (fun K hK=>?_);go_simp;(try rw [hX]);refine hK.out _ _ (fun _=>hS1) ?_;clear hK K
   try simp only [Act.put,Zgj,Zfx,Zge]
   refine Ze (i:=4) rfl (by kernel_rfl) (fun K hK=>?_);go_simp;(try rw [hX]);refine hK.out _ _ (fun _=>hS2) ?_;clear hK K
   try simp only [Act.put,Zgj,Zfx,Zge]
   refine Ze (i:=5) rfl (by kernel_rfl) (fun K hK=>?_);go_simp;(try rw [hX]);refine hK.out _ _ (fun _=>hS3) ?_;clear hK K
   try simp only [Act.put,Zgj,Zfx,Zge]
   refine Zk (by kernel_rfl) ?_ _;refine OnlyNormal.normal ?_;clear c1 c2 c3 c4 z1 z2 z3 z4 c2' z2' c3' c4' z3' z4' hS0 hS1 hS2 hS3 hxs c1' c1'' c2'' c3'' c4'' z2'' z3'' z4'';go_wp2_with fail;simp only [Exit.jump];refine bodyPost_ret (v:=.tuple #[.int .i64 r,.bool ng,.agg #[.bool ln,.slice lA lk lc]]) (by simp [results,Tryz.results51,go_sem,y1,y2,y3,y4]) rfl ?_;have hE3:=hE2.out;exact ⟨L2,ln,lA,lk,lc,by rw [<- hE3],by rw [<- hE3];exact hNX.out,hl2,hg2,by rw [<- hE3],hMX.out.below (Zf (Below.refl _ _) 1),hKX.out.drewN 1⟩
  have t1:((c:Int) == (cols:Int))=false:=beq_eq_false_iff_ne.2 (by omega);have t1':decide (c=cols)=false:=decide_eq_false hc
  by_cases hr:r=n
  case pos =>
   have t2:((r:Int) == (n:Int))=true:=beq_iff_eq.2 (by omega);have t2':decide (r=n)=true:=decide_eq_true hr;replace hr:=Za hr;have hE2:Hid ((L2.map RZ.q,r,ng,last)=FIN):=Za (by rw [<- hE];exact (Zl8 (by rw [hR2.out];exact hr.out)).symm);obtain ⟨X,hX,hBX,q4,st⟩:=Zav (B:=gl) ln lA lk lc (Below.refl gl ((wA.setCell ⟨gr,0,none⟩ (.int .i64 r)).setCell ⟨gn,0,none⟩ (.bool ng))) (Nat.le_refl gl) ((b3.far (Ne.symm d3) _).far (Ne.symm d4) _)
   have x1:Blk X gr 3 #[.int .i64 r]:=by rw [<- hX];exact ((((b1.set_ 0 (.int .i64 r)).far d1 _).far d3 _).far d3 _)
   have x2:Blk X gn 4 #[.bool ng]:=by rw [<- hX];exact (((b2.far (Ne.symm d1) _).set_ 0 (.bool ng)).far d4 _).far d4 _
   have hKX0:Kept (fun k=>k=gr \/ k=gn \/ k=gl) wA X:=by
    rw [<- hX];exact ((((Kept.refl _ wA).set_ (p:=⟨gr,0,none⟩) (.inl (.inl rfl)) _).set_ (p:=⟨gn,0,none⟩) (.inl (.inr (.inl rfl))) _).set_ (p:=⟨gl,0,none⟩) (.inl (.inr (.inr rfl))) _).set_ (p:=⟨gl,1,none⟩) (.inl (.inr (.inr rfl))) _
   have hbox:∀ k,(k=gr \/ k=gn \/ k=gl)->∃ t cs,Blk wA k t cs/\NoLimb cs:=fun k hk=>by
    rcases hk with rfl | rfl | rfl
    ·exact ⟨_,_,b1,Ze6 (fun x=>by simp)⟩
    ·exact ⟨_,_,b2,Ze6 (fun x=>by simp)⟩
    ·exact ⟨_,_,b3,Zbz _ _ _ _⟩
   have hMX:Hid (MatZ 89 43 X go L2):=Za (hM2.keptG hKX0 (fun h=>by have:=e4 go (.inl rfl);omega) (fun s hs h=>by have:=e4 s.g (.inr (hg2 _ (List.mem_map.2 ⟨s,hs,rfl⟩)));omega) hbox);have hNX:Hid (Wd X ln lA lk lc last):=Za (hKX0.wd hwl hbox)
   have hKX:Hid (Kept (fun g=>g=go \/ g ∈ L0.map RZ.g) w X):=Za (Kept.shrink (by rw [hgg.out];exact hB0.out) (hK.trans (hKX0.mono (fun k _ h=>by rcases h with h | h | h <;> simp [h]))) (fun k hk h=>by
    rw [hgg.out] at hk
    rcases h with h | h | h | h | h
    ·exact .inl h
    ·exact .inr h
    ·omega
    ·omega
    ·omega))
   have c1:wA.cell? ⟨gr,0,none⟩=some (.int .i64 r):=by rw [b1.cell];rfl
   have z1:=b1.frozen 0
   have c2:wA.cell? ⟨gn,0,none⟩=some (.bool ng):=by rw [b2.cell];rfl
   have z2:=b2.frozen 0;obtain ⟨c3,c4,z3,z4⟩:=b3.two;have b2':=b2.far (p:=⟨gr,0,none⟩) (Ne.symm d1) (Value.int .i64 r)
   have c2':(wA.setCell ⟨gr,0,none⟩ (.int .i64 r)).cell? ⟨gn,0,none⟩=some (.bool ng):=by rw [b2'.cell];rfl
   have z2':=b2'.frozen 0;obtain ⟨c3',c4',z3',z4'⟩:=(b3.far (p:=⟨gr,0,none⟩) (Ne.symm d3) (Value.int .i64 r)).two
   have c1':(wA.setCell ⟨gr,0,none⟩ (.int .i64 r)).cell? ⟨gr,0,none⟩=some (.int .i64 r):=by rw [(b1.set_ 0 (.int .i64 r)).cell];rfl
   have c1'':((wA.setCell ⟨gr,0,none⟩ (.int .i64 r)).setCell ⟨gn,0,none⟩ (.bool ng)).cell? ⟨gr,0,none⟩=some (.int .i64 r):=by rw [((b1.set_ 0 (.int .i64 r)).far (p:=⟨gn,0,none⟩) d1 _).cell];rfl
   have c2'':((wA.setCell ⟨gr,0,none⟩ (.int .i64 r)).setCell ⟨gn,0,none⟩ (.bool ng)).cell? ⟨gn,0,none⟩=some (.bool ng):=by rw [(b2'.set_ 0 (.bool ng)).cell];rfl
   have z2'':=(b2'.set_ 0 (.bool ng)).frozen 0;obtain ⟨c3'',c4'',z3'',z4''⟩:=((b3.far (p:=⟨gr,0,none⟩) (Ne.symm d3) (Value.int .i64 r)).far (p:=⟨gn,0,none⟩) (Ne.symm d4) (Value.bool ng)).two;obtain ⟨y3,y4,-,-⟩:=q4.two
   have y1:X.cell? ⟨gr,0,none⟩=some (.int .i64 r):=by rw [x1.cell];rfl
   have y2:X.cell? ⟨gn,0,none⟩=some (.bool ng):=by rw [x2.cell];rfl
   clear b1 b2 b3 b2' hM2 hwl hK hE hok2 st hBX hKX0 hbox;go_wp2_with fail;have hS0:wA.drew.cell? ⟨gr,0,none⟩=some (.int .i64 r)/\wA.drew.cell? ⟨gn,0,none⟩=some (.bool ng)/\wA.drew.cell? ⟨gl,0,none⟩=some (.bool ln)/\wA.drew.cell? ⟨gl,1,none⟩=some (.slice lA lk lc):=⟨c1,c2,c3,c4⟩;have hS1:(wA.setCell ⟨gr,0,none⟩ (.int .i64 r)).drew.cell? ⟨gr,0,none⟩=some (.int .i64 r)/\(wA.setCell ⟨gr,0,none⟩ (.int .i64 r)).drew.cell? ⟨gn,0,none⟩=some (.bool ng)/\(wA.setCell ⟨gr,0,none⟩ (.int .i64 r)).drew.cell? ⟨gl,0,none⟩=some (.bool ln)/\(wA.setCell ⟨gr,0,none⟩ (.int .i64 r)).drew.cell? ⟨gl,1,none⟩=some (.slice lA lk lc):=⟨c1',c2',c3',c4'⟩;have hS2:((wA.setCell ⟨gr,0,none⟩ (.int .i64 r)).setCell ⟨gn,0,none⟩ (.bool ng)).drew.cell? ⟨gr,0,none⟩=some (.int .i64 r)/\((wA.setCell ⟨gr,0,none⟩ (.int .i64 r)).setCell ⟨gn,0,none⟩ (.bool ng)).drew.cell? ⟨gn,0,none⟩=some (.bool ng)/\((wA.setCell ⟨gr,0,none⟩ (.int .i64 r)).setCell ⟨gn,0,none⟩ (.bool ng)).drew.cell? ⟨gl,0,none⟩=some (.bool ln)/\((wA.setCell ⟨gr,0,none⟩ (.int .i64 r)).setCell ⟨gn,0,none⟩ (.bool ng)).drew.cell? ⟨gl,1,none⟩=some (.slice lA lk lc):=⟨c1'',c2'',c3'',c4''⟩;have hS3:X.drew.cell? ⟨gr,0,none⟩=some (.int .i64 r)/\X.drew.cell? ⟨gn,0,none⟩=some (.bool ng)/\X.drew.cell? ⟨gl,0,none⟩=some (.bool ln)/\X.drew.cell? ⟨gl,1,none⟩=some (.slice lA lk lc):=⟨y1,y2,y3,y4⟩
   refine Zaj [] (fun wx=>wx.cell? ⟨gr,0,none⟩=some (.int .i64 r)/\wx.cell? ⟨gn,0,none⟩=some (.bool ng)/\wx.cell? ⟨gl,0,none⟩=some (.bool ln)/\wx.cell? ⟨gl,1,none⟩=some (.slice lA lk lc)) hmx hS0 (fun hxs=>?_);refine Zi4 3 [0,1,2] rfl (by kernel_rfl) hS0 ?_
   iterate 3 (refine tk1 (v:=?_) rfl (Or.inl ⟨by kernel_rfl,?_⟩) ?_;rotate_left;(· intro W2 hSw;(try dsimp only at hSw);go_simp;try with_reducible rfl);try simp only [Act.put,Zgj,Zfx,Zge,putG_a,putG_s,putG_z])
   refine tk0 ?_;refine Ze (i:=3) rfl (by kernel_rfl) (fun K hK=>?_);go_simp;(try rw [hX]);refine hK.out _ _ (fun _=>hS1) ?_;clear hK K
   try simp only [Act.put,Zgj,Zfx,Zge]
   refine Ze (i:=4) rfl (by kernel_rfl) (fun K hK=>?_);go_simp;(try rw [hX]);refine hK.out _ _ (fun _=>hS2) ?_;clear hK K
   try simp only [Act.put,Zgj,Zfx,Zge]
   refine Ze (i:=5) rfl (by kernel_rfl) (fun K hK=>?_);go_simp;(try rw [hX]);refine hK.out _ _ (fun _=>hS3) ?_;clear hK K
   try simp only [Act.put,Zgj,Zfx,Zge]
   refine Zk (by kernel_rfl) ?_ _;refine OnlyNormal.normal ?_;clear c1 c2 c3 c4 z1 z2 z3 z4 c2' z2' c3' c4' z3' z4' hS0 hS1 hS2 hS3 hxs c1' c1'' c2'' c3'' c4'' z2'' z3'' z4'';go_wp2_with fail;simp only [Exit.jump];refine bodyPost_ret (v:=.tuple #[.int .i64 r,.bool ng,.agg #[.bool ln,.slice lA lk lc]]) (by simp [results,Tryz.results51,go_sem,y1,y2,y3,y4]) rfl ?_;have hE3:=hE2.out;exact ⟨L2,ln,lA,lk,lc,by rw [<- hE3],by rw [<- hE3];exact hNX.out,hl2,hg2,by rw [<- hE3],hMX.out.below (Zf (Below.refl _ _) 1),hKX.out.drewN 1⟩
  obtain ⟨j,hj⟩:∃ j,cols - c=j+1:=⟨cols - c - 1,by omega⟩;rw [hj] at hE hok2
  have hccols:c < cols:=by omega
  have hrn':r < n:=by omega
  have t2:((r:Int) == (n:Int))=false:=beq_eq_false_iff_ne.2 (by omega);have t2':decide (r=n)=false:=decide_eq_false hr;have hrL:Hid (r ≠ (L2.map RZ.q).length):=Za (by rw [hR2.out];exact hr);replace hr:=Za hr;replace hc:=Za hc;replace hj:=Za hj
  have c1:wA.cell? ⟨gr,0,none⟩=some (.int .i64 r):=by rw [b1.cell];rfl
  obtain ⟨ga,hga⟩:∃ g,wA.heap.size=g:=⟨_,rfl⟩;obtain ⟨V,hV,hBV,qa,kW,kB,sV⟩:=Zr 3 #[.int .i64 r] (Below.refl wA.heap.size wA) (Nat.le_refl _);have hMV:Hid (MatZ 89 43 V go L2):=Za (hM2.below hBV);have hwV:Hid (Wd V ln lA lk lc last):=Za (hwl.below hBV);have v0:=b0.below hBV b0.lt;have v1:=b1.below hBV b1.lt;have v2:=b2.below hBV b2.lt;have v3:=b3.below hBV b3.lt;have hga2:Hid (gl < ga):=Za (by rw [<- hga];exact b3.lt);have hKV:Hid (Kept (fun k=>k=go \/ k ∈ L0.map RZ.g \/ k=gr \/ k=gn \/ k=gl) W0 V):=Za (hK.below hBV);have hVs:Hid (ga < V.heap.size):=Za (by rw [sV];omega);have hW0s:Hid (W0.heap.size <= ga):=Za (by rw [<- hga];exact hK.size);rw [hga] at qa;replace hga:=Za hga;replace v0:=Za v0;replace v1:=Za v1;replace v2:=Za v2;replace v3:=Za v3;replace hE:=Za hE;replace hok2:=Za hok2;replace hl2:=Za hl2;replace hg2:=Za hg2;clear hM2 hwl hK b1 b2 b3 b0 kW kB sV hBV;replace qa:=Za qa;go_wp2_with fail;rw [hga.out];(try rw [hV]);clear hV c1 x0
  go_loopg [45] (n - r) (fun k _ wr=>∃ q:Nat,q+k=n/\r <= q/\Blk wr ga 3 #[.int .i64 q]/\Hid (∀ i,r <= i->i < q->Zaf (L2.map RZ.q) i c=0)/\Kept (fun k=>k=ga) V wr)
  case atStart=>exact ⟨r,by omega,Nat.le_refl _,qa.out,Za (fun i h1 h2=>by omega),Kept.refl _ _⟩
  case round =>
   obtain ⟨q,hqk,hrq,hqa,hzq,hKa⟩:=hrel;have hga3:=hga2.out
   have hboxa:∀ k,k=ga->∃ t cs,Blk V k t cs/\NoLimb cs:=fun k hk=>⟨_,_,(hk ▸ qa.out:Blk V k 3 #[.int .i64 r]),Ze6 (fun x=>by simp)⟩
   have w0:=hKa.blk v0.out (by omega);have w1':=hKa.blk v1.out (by omega);have w2':=hKa.blk v2.out (by omega);have w3':=hKa.blk v3.out (by omega);have hMr:MatZ 89 43 wr go L2:=hMV.out.keptG hKa (fun h=>by have:=e4 go (.inl rfl);omega) (fun s hs h=>by have:=e4 s.g (.inr (hg2.out _ (List.mem_map.2 ⟨s,hs,rfl⟩)));omega) hboxa;have hwr:Wd wr ln lA lk lc last:=hKa.wd hwV.out hboxa;have hKr:Hid (Kept (fun k=>k=go \/ k ∈ L0.map RZ.g \/ k=gr \/ k=gn \/ k=gl) W0 wr):=Za (hKV.out.and hKa (fun k hk h=>by have:=hW0s.out;omega));obtain ⟨x0,-,-,-⟩:=w0.two
   have cq:wr.cell? ⟨ga,0,none⟩=some (.int .i64 q):=by rw [hqa.cell];rfl
   have zq:=hqa.frozen 0
   have c1:wr.cell? ⟨gr,0,none⟩=some (.int .i64 r):=by rw [w1'.cell];rfl
   cases gk with
   | zero =>
    obtain rfl:q=n:=by omega
    have t3:decide ((q:Int) < (q:Int))=false:=by simp
    have t4:((q:Int) == (q:Int))=true:=by simp
    have hp:Zbe (fun i=>Zaf (L2.map RZ.q) i c == 0) (L2.map RZ.q).length (L2.map RZ.q).length r=q:=by
     rw [hR2.out];exact Zk0 (by omega) hrq (Nat.le_refl _) (fun i h1 h2=>by rw [hzq.out i h1 h2];rfl) (fun h=>by omega)
    have hE2:=Za ((Zld (f:=j) (ng:=ng) (last:=last) hrL.out hp hR2.out.symm).symm.trans hE.out);have hok3:=Za (Zqk hok2.out hrL.out hp hR2.out.symm);have hj2:Hid (cols - (c+1)=j):=Za (by have:=hj.out;omega);replace hp:=Za hp;replace hMr:=Za hMr;replace hwr:=Za hwr;replace w1':=Za w1';replace w2':=Za w2';replace w3':=Za w3';clear hKa hboxa;go_wp2_with fail
    go_step3
    refine ⟨rfl,?_⟩;refine ⟨⟨c+1,r,ng,last,ln,lA,lk,lc,L2,Zk5 rfl rfl rfl rfl rfl rfl rfl (by first | rfl | (show Value.int .i64 _=_;congr 1)) ⟨by omega,by omega,w1'.out,w2'.out,w3'.out,hwr.out,hMr.out,hl2.out,hg2.out,by rw [hj2.out];exact hE2.out,by rw [hj2.out];exact hok3.out,hKr.out⟩⟩,?_⟩
    simp [colOf]
    omega
   | succ gk' =>
    obtain rfl:gk'=n - (q+1):=by omega
    have hqn:q < n:=by omega
    have t3:decide ((q:Int) < (n:Int))=true:=decide_eq_true (by omega)
    have bq:(q:Int) < (n:Int):=by omega
    obtain ⟨x,hx⟩:=Zcv (L:=L2) (i:=q) (by rw [hl2.out];exact hqn)
    have hlx:x.q.length=m:=by
     have:=hbd.out.1.1 q (by rw [hR2.out];exact hqn);rw [List.getElem?_map,hx] at this;exact this
    obtain ⟨cx,zx⟩:=hMr.cell hx;obtain ⟨fx,-⟩:=hMr.row hx;rw [hlx] at cx
    have bc:(c:Int) < (m:Int):=by omega
    obtain ⟨n1,A1,k1,kc1,p0,p1,hf1⟩:=fx.at_ (i:=c) (by rw [hlx];omega);have hk1:k1 <= 4096:=hf1.2.1
    have hex:Zaf (L2.map RZ.q) q c=x.q[c]?.getD 0:=by rw [Zjk,Zg2 hx]
    rw [<- hex] at hf1
    have hkz:k1=0 ↔ Zaf (L2.map RZ.q) q c=0:=by
     have h1:=hf1.lim.len;have h2:=length_digits_pos (v:=(Zaf (L2.map RZ.q) q c).natAbs);omega
    have hZ:=Za (fun W1=>Zjw n1 A1 k1 kc1 W1 (by omega) ((k1:Int) == 0) rfl)
    by_cases hz:k1=0
    case pos =>
     have t4:((k1:Int) == 0)=true:=by simp [hz]
     rw [t4] at hZ;have hq0:=hkz.1 hz
     have hzq2:Hid (∀ i,r <= i->i < q+1->Zaf (L2.map RZ.q) i c=0):=Za (fun i h1 h2=>by
      by_cases hi:i=q
      ·rw [hi];exact hq0
      ·exact hzq.out i h1 (by omega))
     replace hz:=Za hz;replace hMr:=Za hMr;replace hwr:=Za hwr;clear hq0 hf1 fx zx hex hlx hx hkz w1' w2' w3';go_wp2_with fail;refine (hZ.out _).mono ?_;rintro e w5 ⟨rfl,hb5⟩;have cq5:=Zb hb5 cq;have zq5:=Zj hb5 cq zq;have hqa5:=(hqa.below hb5 hqa.lt).set_ 0 (.int .i64 ((q:Int)+1));have hKa5:=(hKa.below hb5).set_ (p:=⟨ga,0,none⟩) (.inl rfl) (.int .i64 ((q:Int)+1));replace hqa5:=Za hqa5;replace hKa5:=Za hKa5;clear hKa hqa hboxa;go_wp2_with fail
     go_roundg (n - (q+1))
     case measure=>omega
     case rel=>exact ⟨q+1,by omega,by omega,hqa5.out,hzq2,hKa5.out⟩
    have t4:((k1:Int) == 0)=false:=by simp;omega
    rw [t4] at hZ
    have hnz:Zaf (L2.map RZ.q) q c ≠ 0:=fun e=>hz (hkz.2 e)
    have t5:((q:Int) == (n:Int))=false:=beq_eq_false_iff_ne.2 (by omega);have t5':decide (q=n)=false:=decide_eq_false (by omega)
    have hp:Zbe (fun i=>Zaf (L2.map RZ.q) i c == 0) (L2.map RZ.q).length (L2.map RZ.q).length r=q:=by
     rw [hR2.out];exact Zk0 (by omega) hrq (by omega) (fun i h1 h2=>by rw [hzq.out i h1 h2];rfl) (fun _=>by simpa using hnz)
    have hE2:=Za ((Zln (f:=j) (ng:=ng) (last:=last) hrL.out hp (by rw [hR2.out];omega)).symm.trans hE.out);have hok3:=Za (Zqg hok2.out hrL.out hp (by rw [hR2.out];omega));obtain ⟨L3,hL3⟩:∃ X,Zai L2 q r=X:=⟨_,rfl⟩
    have hs3:L3.map RZ.q=Zai (L2.map RZ.q) q r:=by rw [<- hL3];exact Zj5 _ _ _ _
    have hl3:Hid (L3.length=n):=Za (by rw [<- hL3,Zdz];exact hl2.out);have hs3H:=Za hs3
    have hm3:Hid (∀ i,i < n->(Zas L3 i).length=m):=Za (fun i hi=>by
     rw [Zju,hs3,Zdg (by rw [hR2.out];exact hqn) (by rw [hR2.out];exact hrn')]
     exact hbd.out.1.1 _ (by rw [hR2.out];exact Zg8 hqn hrn' hi))
    have hB3:Hid (∀ (i t:Nat),((Zas L3 i)[t]?.getD 0).natAbs < pw 200):=Za (fun i t=>by
     rw [<- Zjk,hs3,Zhk (by rw [hR2.out];exact hqn) (by rw [hR2.out];exact hrn')]
     exact hbd.out.1.2 _ _)
    have hpv:Hid ((Zas L3 r)[c]?.getD 0=Zaf (L2.map RZ.q) q c):=Za (by
     rw [<- Zjk,hs3,Zhk (by rw [hR2.out];exact hqn) (by rw [hR2.out];exact hrn'),Zrl])
    have hg3:Hid (∀ g ∈ L3.map RZ.g,g ∈ L0.map RZ.g):=Za (fun g hg=>by
     rw [<- hL3,Zj5] at hg
     exact hg2.out g (Zia _ _ _ _ hg))
    have hSW:=Za (fun (W1:World) (h1:Blk W1 gg 91 #[.slice (some ⟨go,0,none⟩) n cap,vby]) (h2:Blk W1 gr 3 #[.int .i64 r]) (h3:Blk W1 ga 3 #[.int .i64 q]) (h4:Blk W1 gn 4 #[.bool ng]) (h5:MatZ 89 43 W1 go L2) (hqr:q ≠ r) =>
     Zxe gg gr ga gn go n cap q r ng vby L2 W1 h1 h2 h3 h4 h5 hl2.out hqn hrn' hqr (by have:=e4 go (.inl rfl);omega))
    rw [hL3] at hSW;replace hz:=Za hz;replace hnz:=Za hnz;replace hp:=Za hp;replace hkz:=Za hkz;replace hex:=Za hex
    have br:(r:Int) < (n:Int):=by omega
    clear hs3 fx hf1;go_wp2_with fail;refine (hZ.out _).mono ?_;rintro e w5 ⟨rfl,hb5⟩;clear p0 p1 cx zx;have y0:=w0.below hb5 w0.lt;have y1:=w1'.below hb5 w1'.lt;have y2:=w2'.below hb5 w2'.lt;have y3:=w3'.below hb5 w3'.lt;have ya:=hqa.below hb5 hqa.lt;have hM5:=hMr.below hb5;have hw5:=hwr.below hb5;have hK5:Hid (Kept (fun k=>k=go \/ k ∈ L0.map RZ.g \/ k=gr \/ k=gn \/ k=gl) W0 w5):=Za (hKr.out.below hb5);have x0':=Zb hb5 x0;have cq5:=Zb hb5 cq;have c15:=Zb hb5 c1;clear x0 cq c1 w0 w1' w2' w3' hqa hMr hwr hKa hboxa hKr zq hb5
    rcases Classical.em (q=r) with hqr | hqr
    all_goals
     first
     | have hq0:q=r:=hqr
       have t6:((q:Int) == (r:Int))=true:=beq_iff_eq.2 (by omega)
       have t6':((q:Int) != (r:Int))=false:=by rw [bne,t6];rfl
       have t7:decide (q=r)=true:=decide_eq_true hqr;obtain ⟨ngz,hngz⟩:∃ b:Bool,b=ng:=⟨_,rfl⟩;rw [<- hngz] at y2;have hng:Hid ((ng != decide (q ≠ r))=ngz):=Za (by rw [hngz,decide_eq_false (by omega:¬ q ≠ r)];cases ng <;> rfl);replace hngz:=Za hngz
       have hLe:L2=L3:=by rw [<- hL3,hqr];exact (Zq2 _ _).symm
       rw [hLe] at hM5;clear hLe hL3 hSW hq0;replace hqr:=Za hqr;obtain ⟨wz,hwz⟩:∃ x:World,x=w5:=⟨_,rfl⟩;subst hwz
     | have t6:((q:Int) == (r:Int))=false:=beq_eq_false_iff_ne.2 (by omega)
       have t6':((q:Int) != (r:Int))=true:=by rw [bne,t6];rfl
       have t7:decide (q=r)=false:=decide_eq_false hqr;obtain ⟨ngz,hngz⟩:∃ b:Bool,b=!ng:=⟨_,rfl⟩;have hng:Hid ((ng != decide (q ≠ r))=ngz):=Za (by rw [hngz,decide_eq_true (by omega:q ≠ r)];cases ng <;> rfl);have hC:=Za (hSW.out w5 y0 y1 ya y2 hM5 hqr)
       have hbx5:∀ k,(k=go \/ k=gn)->∃ t cs,Blk w5 k t cs/\NoLimb cs:=fun k hk=>by
        rcases hk with rfl | rfl
        ·exact hM5.boxes _ (.inl rfl)
        ·exact ⟨_,_,y2,Ze6 (fun x=>by simp)⟩
       replace hbx5:=Za hbx5;replace y0:=Za y0;replace y1:=Za y1;replace y3:=Za y3;replace hw5:=Za hw5;clear hM5 ya y2 hL3 hSW;replace hqr:=Za hqr;replace hngz:=Za hngz;go_wp2_with fail;refine hC.out.mono ?_;rintro e w6 ⟨rfl,hM6,y2,hK6⟩;have hgo6:=e4 go (.inl rfl);have hM5:=hM6;replace y0:=hK6.blk y0.out (by omega);replace y1:=hK6.blk y1.out (by omega);replace y3:=hK6.blk y3.out (by omega);replace hw5:=hK6.wd hw5.out hbx5.out;replace hK5:Hid (Kept (fun k=>k=go \/ k ∈ L0.map RZ.g \/ k=gr \/ k=gn \/ k=gl) W0 w6):=Za (hK5.out.and hK6 (fun k _ h=>by rcases h with h | h <;> simp [h]));clear hM6 hK6 hC x0' c15 cq5;have ya:True:=trivial;have cq5:True:=trivial;obtain ⟨x0',-,-,-⟩:=y0.two
       have c15:w6.cell? ⟨gr,0,none⟩=some (.int .i64 r):=by rw [y1.cell];rfl
       rw [<- hngz.out] at y2;obtain ⟨wz,hwz⟩:∃ x:World,x=w6:=⟨_,rfl⟩;subst hwz
    all_goals
     obtain ⟨y,hy⟩:=Zcv (L:=L3) (i:=r) (by rw [hl3.out];exact hrn')
     have hly:y.q.length=m:=by rw [<- Zg2 hy];exact hm3.out r hrn'
     obtain ⟨cy,-⟩:=hM5.cell hy;obtain ⟨fy,-⟩:=hM5.row hy;rw [hly] at cy;obtain ⟨pn,pA,pk,pc,p0,p1,hfp⟩:=fy.at_ (i:=c) (by rw [hly];omega);rw [<- Zg2 hy] at hfp;obtain ⟨gp,hgp⟩:∃ g,wz.heap.size=g:=⟨_,rfl⟩;obtain ⟨Wp,hWp,hBP,qp,kW,kB,sP⟩:=Zr 43 #[.bool pn,.slice pA pk pc] (Below.refl wz.heap.size wz) (Nat.le_refl _);have hMP:Hid (MatZ 89 43 Wp go L3):=Za (hM5.below hBP);have hwP:Hid (Wd Wp ln lA lk lc last):=Za (hw5.below hBP);have hfP:Hid (Wd Wp pn pA pk pc ((Zas L3 r)[c]?.getD 0)):=Za (hfp.below hBP);have y0P:Hid (Blk Wp gg 91 #[.slice (some ⟨go,0,none⟩) n cap,vby]):=Za (y0.below hBP y0.lt);have y1P:Hid (Blk Wp gr 3 #[.int .i64 r]):=Za (y1.below hBP y1.lt);have y2P:Hid (Blk Wp gn 4 #[.bool ngz]):=Za (y2.below hBP y2.lt);have y3P:Hid (Blk Wp gl 43 #[.bool ln,.slice lA lk lc]):=Za (y3.below hBP y3.lt);have hKP:Hid (Kept (fun k=>k=go \/ k ∈ L0.map RZ.g \/ k=gr \/ k=gn \/ k=gl) W0 Wp):=Za (hK5.out.below hBP);have hgpl:Hid (gl < gp):=Za (by rw [<- hgp];exact y3.lt);rw [hgp] at qp;have qpH:=Za qp;replace hgp:=Za hgp;have hnot:Hid (∀ k,gg <= k->k ∉ L3.map RZ.g):=Za (fun k hk hm=>by have:=e4 k (.inr (hg3.out k hm));omega);obtain ⟨x0P,-,-,-⟩:=y0P.out.two;clear hM5 hw5 y0 y1 y2 y3 ya fy hfp qp kW kB sP hK5 hBP;go_wp2_with fail;(try rw [hgp.out]);(try rw [hWp]);clear hWp cy p0 p1 x0' cq5 c15 x0P;have hboxP:Hid (∀ k,k ∈ L3.map RZ.g->∃ t cs,Blk Wp k t cs/\NoLimb cs):=Za (fun k hk=>hMP.out.boxes k (.inr hk))
     have hgo3:Hid (go ∉ L3.map RZ.g):=Za (List.nodup_cons.1 hMP.out.2.2).1
     go_loopg [72] n (fun k iv wr=>∃ (i:Nat) (L4:List RZ),i+k=n/\iv=.int .i64 i/\MatZ 89 43 wr go L4/\Hid (L4.length=n)/\Hid (L4.map RZ.g=L3.map RZ.g)/\Hid (ClzTo L3 L4 r c last i)/\Kept (fun k=>k ∈ L3.map RZ.g) Wp wr)
     case atStart=>exact ⟨0,L3,by omega,rfl,hMP.out,hl3,Za rfl,Za (fun j hj=>by rw [if_pos (Or.inr (Nat.zero_le j))]),Kept.refl _ _⟩
     case round =>
      obtain ⟨i,L4,hik,rfl,hM4,hl4,hg4,hcl,hKl⟩:=hrel;have b0:=hKl.blk y0P.out (hnot.out gg (Nat.le_refl _));have b1:=hKl.blk y1P.out (hnot.out gr (by omega));have b2:=hKl.blk y2P.out (hnot.out gn (by omega));have b3:=hKl.blk y3P.out (hnot.out gl (by omega));have bp:=hKl.blk qpH.out (hnot.out gp (by have:=hgpl.out;omega));have hfr:Wd wr pn pA pk pc ((Zas L3 r)[c]?.getD 0):=hKl.wd hfP.out hboxP.out;have hwl:Wd wr ln lA lk lc last:=hKl.wd hwP.out hboxP.out;obtain ⟨x0,-,-,-⟩:=b0.two
      have c1:wr.cell? ⟨gr,0,none⟩=some (.int .i64 r):=by rw [b1.cell];rfl
      have z1:=b1.frozen 0;obtain ⟨l0,l1,lz0,lz1⟩:=b3.two;obtain ⟨s0,s1,sz0,sz1⟩:=bp.two
      cases gk with
      | zero =>
       obtain rfl:i=n:=by omega
       have t8:decide ((i:Int) < (i:Int))=false:=by simp
       have hq4:L4.map RZ.q=Zc9 (L3.map RZ.q) r c last:=ClzTo.done (by rw [hl3.out];exact hcl.out) (by rw [hl4.out,hl3.out]);obtain ⟨X,hX,hBX,q4,st⟩:=Zav (B:=gl) pn pA pk pc (Below.refl gl wr) (Nat.le_refl gl) b3
       have m1:Blk X gr 3 #[.int .i64 r]:=by rw [<- hX];exact (b1.far d3 _).far d3 _
       have m2:Blk X gn 4 #[.bool ngz]:=by rw [<- hX];exact (b2.far d4 _).far d4 _
       have m1c:X.cell? ⟨gr,0,none⟩=some (.int .i64 r):=by rw [m1.cell];rfl
       have m1z:=m1.frozen 0
       have hKX:Kept (fun k=>k=gl \/ k=gr) wr (X.setCell ⟨gr,0,none⟩ (.int .i64 ((r:Int)+1))):=by
        rw [<- hX];exact (((Kept.refl _ wr).set_ (p:=⟨gl,0,none⟩) (.inl (.inl rfl)) _).set_ (p:=⟨gl,1,none⟩) (.inl (.inl rfl)) _).set_ (p:=⟨gr,0,none⟩) (.inl (.inr rfl)) _
       have hbx:∀ k,(k=gl \/ k=gr)->∃ t cs,Blk wr k t cs/\NoLimb cs:=fun k hk=>by
        rcases hk with rfl | rfl
        ·exact ⟨_,_,b3,Zbz _ _ _ _⟩
        ·exact ⟨_,_,b1,Ze6 (fun x=>by simp)⟩
       have hMX:Hid (MatZ 89 43 (X.setCell ⟨gr,0,none⟩ (.int .i64 ((r:Int)+1))) go L4):=Za (hM4.keptG hKX (fun h=>by have:=e4 go (.inl rfl);omega) (fun s hs h=>by
        have h1:s.g ∈ L3.map RZ.g:=by rw [<- hg4.out];exact List.mem_map.2 ⟨s,hs,rfl⟩
        have:=e4 s.g (.inr (hg3.out _ h1));omega) hbx)
       have hNX:Hid (Wd (X.setCell ⟨gr,0,none⟩ (.int .i64 ((r:Int)+1))) pn pA pk pc ((Zas L3 r)[c]?.getD 0)):=Za (hKX.wd hfr hbx);have m1':Hid (Blk (X.setCell ⟨gr,0,none⟩ (.int .i64 ((r:Int)+1))) gr 3 #[.int .i64 ((r:Int)+1)]):=Za (m1.set_ 0 _);have m2':Hid (Blk (X.setCell ⟨gr,0,none⟩ (.int .i64 ((r:Int)+1))) gn 4 #[.bool ngz]):=Za (m2.far (p:=⟨gr,0,none⟩) (Ne.symm d1) _);have m3':Hid (Blk (X.setCell ⟨gr,0,none⟩ (.int .i64 ((r:Int)+1))) gl 43 #[.bool pn,.slice pA pk pc]):=Za (q4.far (p:=⟨gr,0,none⟩) (Ne.symm d3) _);have hKJ:Hid (Kept (fun k=>k=go \/ k ∈ L0.map RZ.g \/ k=gr \/ k=gn \/ k=gl) W0 (X.setCell ⟨gr,0,none⟩ (.int .i64 ((r:Int)+1)))):=Za ((hKP.out.and hKl (fun k _ h=>.inr (.inl (hg3.out k h)))).and hKX (fun k _ h=>by rcases h with h | h <;> simp [h]));have hE4:Hid (Zae j (c+1) (r+1) (L4.map RZ.q) ngz ((Zas L3 r)[c]?.getD 0)=FIN):=Za (by rw [hq4,hs3H.out,hpv.out,<- hng.out];exact hE2.out);have hok4:Hid (okZ (pw 200) m j (c+1) (r+1) (L4.map RZ.q) ((Zas L3 r)[c]?.getD 0)):=Za (by rw [hq4,hs3H.out,hpv.out];exact hok3.out);have hj2:Hid (cols - (c+1)=j):=Za (by have:=hj.out;omega);have hg5:Hid (∀ g ∈ L4.map RZ.g,g ∈ L0.map RZ.g):=Za (fun g hg=>hg3.out g (by rw [<- hg4.out];exact hg));clear hM4 hKl b0 b1 b2 b3 bp hfr hwl q4 m1 m2 hKX hbx hq4 st hBX;go_wp2_with fail;(try rw [hX]);go_wp2_with fail
       go_step3
       refine ⟨rfl,?_⟩;refine ⟨⟨c+1,r+1,ngz,_,pn,pA,pk,pc,L4,Zk5 rfl rfl rfl rfl rfl rfl rfl (by first | rfl | (show Value.int .i64 _=_;congr 1)) ⟨by omega,by omega,m1'.out,m2'.out,m3'.out,hNX.out,hMX.out,hl4.out,hg5.out,by rw [hj2.out];exact hE4.out,by rw [hj2.out];exact hok4.out,hKJ.out⟩⟩,?_⟩
       simp [colOf]
       omega
      | succ gk' =>
       obtain rfl:gk'=n - (i+1):=by omega
       have hin:i < n:=by omega
       have t8:decide ((i:Int) < (n:Int))=true:=decide_eq_true (by omega)
       have bi:(i:Int) < (n:Int):=by omega
       obtain ⟨ri,hri⟩:=Zcv (L:=L4) (i:=i) (by rw [hl4.out];exact hin);obtain ⟨ci,zi⟩:=hM4.cell hri;obtain ⟨rr,hrr⟩:=Zcv (L:=L4) (i:=r) (by rw [hl4.out];exact hrn');obtain ⟨cr,zr⟩:=hM4.cell hrr
       have hqr2:rr.q=Zas L3 r:=by
        have:=hcl.out r (by rw [hl3.out];exact hrn');rw [Zg2 hrr,if_pos (Or.inl (Nat.le_refl r))] at this;exact this
       have hlr:rr.q.length=m:=by rw [hqr2];exact hm3.out r hrn'
       rw [hlr] at cr
       by_cases hir:i <= r
       case pos =>
        have t9:decide ((i:Int) <= (r:Int))=true:=decide_eq_true (by omega);have t9':decide (i <= r)=true:=decide_eq_true hir;have hcl2:Hid (ClzTo L3 L4 r c last (i+1)):=Za (hcl.out.pass hir);replace hM4:=Za hM4;replace hKl:=Za hKl;replace hir:=Za hir;clear b0 b1 b2 b3 bp hfr hwl;go_wp2_with fail
        go_roundg (n - (i+1))
        case measure=>omega
        case rel=>exact ⟨i+1,L4,by omega,by go_num,hM4.out,hl4,hg4,hcl2,hKl.out⟩
       have t9:decide ((i:Int) <= (r:Int))=false:=decide_eq_false (by omega);have t9':decide (i <= r)=false:=decide_eq_false hir
       have hqi:ri.q=Zas L3 i:=by
        have:=hcl.out i (by rw [hl3.out];exact hin);rw [Zg2 hri,if_pos (Or.inr (Nat.le_refl i))] at this;exact this
       have hli:ri.q.length=m:=by rw [hqi];exact hm3.out i hin
       rw [hli] at ci;obtain ⟨fi,-⟩:=hM4.row hri;obtain ⟨hn_,hA,hk,hc_,p0,p1,hfh⟩:=fi.at_ (i:=c) (by rw [hli];omega);rw [hqi] at hfh;obtain ⟨gh,hgh⟩:∃ g,wr.heap.size=g:=⟨_,rfl⟩;obtain ⟨Wh,hWh,hBh,qh,kW,kB,sh⟩:=Zr 43 #[.bool hn_,.slice hA hk hc_] (Below.refl wr.heap.size wr) (Nat.le_refl _);have hMh:Hid (MatZ 89 43 Wh go L4):=Za (hM4.below hBh);have hfhh:Hid (Wd Wh hn_ hA hk hc_ ((Zas L3 i)[c]?.getD 0)):=Za (hfh.below hBh);have hfph:Hid (Wd Wh pn pA pk pc ((Zas L3 r)[c]?.getD 0)):=Za (hfr.below hBh);have hwlh:Hid (Wd Wh ln lA lk lc last):=Za (hwl.below hBh);have b0h:Hid (Blk Wh gg 91 #[.slice (some ⟨go,0,none⟩) n cap,vby]):=Za (b0.below hBh b0.lt);have b1h:Hid (Blk Wh gr 3 #[.int .i64 r]):=Za (b1.below hBh b1.lt);have b3h:Hid (Blk Wh gl 43 #[.bool ln,.slice lA lk lc]):=Za (b3.below hBh b3.lt);have bph:Hid (Blk Wh gp 43 #[.bool pn,.slice pA pk pc]):=Za (bp.below hBh bp.lt);have hKh:Hid (Kept (fun k=>k ∈ L3.map RZ.g) Wp Wh):=Za (hKl.below hBh);have hghl:Hid (gl < gh):=Za (by rw [<- hgh];exact b3.lt);rw [hgh] at qh;replace qh:=Za qh;replace hgh:=Za hgh;have hboxh:Hid (∀ k,k ∈ L3.map RZ.g->∃ t cs,Blk Wh k t cs/\NoLimb cs):=Za (fun k hk=>hMh.out.boxes k (.inr (by rw [hg4.out];exact hk)));replace hir:=Za hir;clear hM4 hKl b0 b1 b2 b3 bp hfr hwl hfh fi kW kB sh hBh zi zr cr;go_wp2_with fail;(try rw [hgh.out]);(try rw [hWh]);clear hWh p0 p1 ci x0 c1 z1 l0 l1 lz0 lz1 s0 s1 sz0 sz1
       go_loopg [86] m (fun k iv wr=>∃ (t:Nat) (q3:List Int),t+k=m/\iv=.int .i64 t/\MatZ 89 43 wr go (L4.set i ⟨ri.g,q3⟩)/\Hid (q3.length=m)/\Hid (∀ s,q3[s]?.getD 0=if s < t then Int.fdiv ((Zas L3 i)[s]?.getD 0 * (Zas L3 r)[c]?.getD 0 - (Zas L3 i)[c]?.getD 0 * (Zas L3 r)[s]?.getD 0) last else (Zas L3 i)[s]?.getD 0)/\Kept (fun k=>k ∈ L3.map RZ.g) Wh wr)
       case atStart =>
        refine ⟨0,ri.q,by omega,rfl,?_,Za hli,Za (fun s=>by rw [if_neg (Nat.not_lt_zero s),hqi]),Kept.refl _ _⟩
        have e:L4.set i ⟨ri.g,ri.q⟩=L4:=by
         apply List.ext_getElem?
         intro t;rw [List.getElem?_set]
         split
         ·rename_i h;subst h;rw [if_pos (by rw [hl4.out];exact hin),hri]
         ·rfl
        rw [e];exact hMh.out
       case round =>
        obtain ⟨t,q3,htk,rfl,hM3,hl3q,hq3,hK3⟩:=hrel
        cases gk with
        | zero =>
         obtain rfl:t=m:=by omega
         have t10:decide ((t:Int) < (t:Int))=false:=by simp
         have hrel2:Hid ((L4.set i ⟨ri.g,q3⟩).length=n/\(L4.set i ⟨ri.g,q3⟩).map RZ.g=L3.map RZ.g/\ClzTo L3 (L4.set i ⟨ri.g,q3⟩) r c last (i+1)):=Za (by
          refine ⟨by rw [List.length_set];exact hl4.out,?_,?_⟩
          ·rw [Zos (s:=⟨ri.g,q3⟩) hri rfl];exact hg4.out
          ·have hir2:=hir.out
           refine hcl.out.step (by rw [hl4.out,hl3.out]) (by rw [hl3.out];exact hin) (by omega) ?_;refine rowZ_eq (by rw [hl3q.out,hm3.out i hin]) (fun s=>?_)
           rw [hq3.out s,hm3.out i hin])
         have hK6:Hid (Kept (fun k=>k ∈ L3.map RZ.g) Wp wr):=Za (hKh.out.trans hK3);replace hM3:=Za hM3;clear hK3;go_wp2_with fail
         go_roundg (n - (i+1))
         case measure=>omega
         case rel=>exact ⟨i+1,_,by omega,by go_num,hM3.out,Za hrel2.out.1,Za hrel2.out.2.1,Za hrel2.out.2.2,hK6.out⟩
        | succ gk3 =>
         obtain rfl:gk3=m - (t+1):=by omega
         have htm:t < m:=by omega
         have t10:decide ((t:Int) < (m:Int))=true:=decide_eq_true (by omega)
         have bt:(t:Int) < (m:Int):=by omega
         have b0:=hK3.blk b0h.out (hnot.out gg (Nat.le_refl _));have b1:=hK3.blk b1h.out (hnot.out gr (by omega));have b3:=hK3.blk b3h.out (hnot.out gl (by omega));have bp:=hK3.blk bph.out (hnot.out gp (by have:=hgpl.out;omega));have bh:=hK3.blk qh.out (hnot.out gh (by have:=hghl.out;omega));have hfr:Wd wr pn pA pk pc ((Zas L3 r)[c]?.getD 0):=hK3.wd hfph.out hboxh.out;have hfh:Wd wr hn_ hA hk hc_ ((Zas L3 i)[c]?.getD 0):=hK3.wd hfhh.out hboxh.out;have hwl:Wd wr ln lA lk lc last:=hK3.wd hwlh.out hboxh.out;have hir2:=hir.out;obtain ⟨cr,-⟩:=hM3.cell (i:=r) (r:=rr) (by rw [List.getElem?_set,if_neg (by omega)];exact hrr);rw [hlr] at cr;obtain ⟨f3,-⟩:=hM3.row (i:=i) (r:=⟨ri.g,q3⟩) (by rw [List.getElem?_set,if_pos rfl,if_pos (by rw [hl4.out];exact hin)]);obtain ⟨f4,-⟩:=hM3.row (i:=r) (r:=rr) (by rw [List.getElem?_set,if_neg (by omega)];exact hrr);obtain ⟨n4,A4,k4,c4,q0',q1',hf4⟩:=f4.at_ (i:=t) (by rw [hlr];exact htm);rw [hqr2] at hf4;obtain ⟨n5,A5,k5,c5,u0,u1,hf5⟩:=f3.at_ (i:=t) (by rw [show RZ.q ⟨ri.g,q3⟩=q3 from rfl,hl3q.out];exact htm)
         have hf5c:q3[t]?.getD 0=(Zas L3 i)[t]?.getD 0:=by
          have h1:=hq3.out t;rw [if_neg (by omega)] at h1;exact h1
         simp only [hf5c] at hf5;have uz0:=f3.frozen (t * 2);have uz1:=f3.frozen (t * 2+1);obtain ⟨x0,-,-,-⟩:=b0.two
         have c1:wr.cell? ⟨gr,0,none⟩=some (.int .i64 r):=by rw [b1.cell];rfl
         obtain ⟨l0,l1,-,-⟩:=b3.two;obtain ⟨s0,s1,-,-⟩:=bp.two;obtain ⟨h0,h1,-,-⟩:=bh.two;have sb1:((Zas L3 i)[t]?.getD 0 * (Zas L3 r)[c]?.getD 0).natAbs < pw 400:=Zil (hB3.out i t) (hB3.out r c);have sb2:((Zas L3 i)[c]?.getD 0 * (Zas L3 r)[t]?.getD 0).natAbs < pw 400:=Zil (hB3.out i c) (hB3.out r t);have sb3:Hid (((Zas L3 i)[t]?.getD 0 * (Zas L3 r)[c]?.getD 0 - (Zas L3 i)[c]?.getD 0 * (Zas L3 r)[t]?.getD 0).natAbs < pw 4096):=Za (Nat.lt_of_lt_of_le (Zri sb1 sb2) (Zbk (by decide)));replace sb1:=Za (Nat.lt_of_lt_of_le sb1 (Zbk (by decide:400 <= 4096)));replace sb2:=Za (Nat.lt_of_lt_of_le sb2 (Zbk (by decide:400 <= 4096)));have hl0:Hid (last ≠ 0):=Za hbd.out.2.1;replace hM3:=Za hM3;replace hK3:=Za hK3;clear f4 f3 b0 b1 b3 bp bh hf5c hir2;go_wp2_with fail
         have hSv9:Hid (∀ wx,Below wr.heap.size wr wx->wx.cell? ⟨ri.g,t * 2,none⟩=some (.bool n5)/\wx.cell? ⟨ri.g,t * 2+1,none⟩=some (.slice A5 k5 c5)/\wx.cell? ⟨gp,0,none⟩=some (.bool pn)/\wx.cell? ⟨gp,1,none⟩=some (.slice pA pk pc)/\wx.cell? ⟨gh,0,none⟩=some (.bool hn_)/\wx.cell? ⟨gh,1,none⟩=some (.slice hA hk hc_)/\wx.cell? ⟨gg,0,none⟩=some (.slice (some ⟨go,0,none⟩) n cap)/\wx.cell? ⟨gr,0,none⟩=some (.int .i64 r)/\wx.cell? ⟨go,r,none⟩=some (.slice (some ⟨rr.g,0,none⟩) m m)/\wx.cell? ⟨rr.g,t * 2,none⟩=some (.bool n4)/\wx.cell? ⟨rr.g,t * 2+1,none⟩=some (.slice A4 k4 c4)/\wx.cell? ⟨gl,0,none⟩=some (.bool ln)/\wx.cell? ⟨gl,1,none⟩=some (.slice lA lk lc)):=Za (fun wx hbx=>⟨Zb hbx u0,Zb hbx u1,Zb hbx s0,Zb hbx s1,Zb hbx h0,Zb hbx h1,Zb hbx x0,Zb hbx c1,Zb hbx cr,Zb hbx q0',Zb hbx q1',Zb hbx l0,Zb hbx l1⟩);have hr9:Below wr.heap.size wr wr.drew:=Zf (Below.refl _ _) 1;refine wp_heldS [22] hmx hSv9 hr9 (fun hxs9=>?_);refine Zfy 2 [0,1] rfl (by kernel_rfl) (hSv9.out _ hr9) ?_
         iterate 2 (refine tk1 (v:=?_) rfl (Or.inl ⟨by kernel_rfl,?_⟩) ?_;rotate_left;(· intro W2 _;go_simp;try with_reducible rfl);try simp only [Act.put,Zgj,Zfx,Zge,putG_a,putG_s,putG_z])
         refine tk0 ?_;refine Zi4 15 [2,3,4,5,6,8,9,10,11,12,13,14,15,16,19] rfl (by kernel_rfl) (hSv9.out _ hr9) ?_
         iterate 15 (refine tk1 (v:=?_) rfl (Or.inl ⟨by kernel_rfl,?_⟩) ?_;rotate_left;(· intro W2 hSw;(try dsimp only at hSw);go_simp;try with_reducible rfl);try simp only [Act.put,Zgj,Zfx,Zge,putG_a,putG_s,putG_z])
         refine tk0 ?_;refine Ze (i:=7) rfl (by kernel_rfl) (fun K hK=>?_);go_simp;refine (Zc5 n5 pn A5 pA k5 c5 pk pc _ _ wr.drew (hf5.below hr9) (hfr.below hr9) sb1.out).mono ?_;rintro e w21 ⟨hb21,n21,A21,k21,c21,rfl,hf21⟩;have hr21:=hr9.trans (hb21.mono hr9.size);refine hK.out _ _ (fun _=>hSv9.out _ hr21) ?_;clear hK K
         try simp only [Act.put,Zgj,Zfx,Zge]
         refine Ze (i:=17) rfl (by kernel_rfl) (fun K hK=>?_);go_simp;refine (Zc5 hn_ n4 hA A4 hk hc_ k4 c4 _ _ w21 (hfh.below hr21) (hf4.below hr21) sb2.out).mono ?_;rintro e w22 ⟨hb22,n22,A22,k22,c22,rfl,hf22⟩;have hr22:=hr21.trans (hb22.mono hr21.size);refine hK.out _ _ (fun _=>hSv9.out _ hr22) ?_;clear hK K
         try simp only [Act.put,Zgj,Zfx,Zge]
         refine Ze (i:=18) rfl (by kernel_rfl) (fun K hK=>?_);go_simp;refine (lsub_ok n21 n22 A21 A22 k21 c21 k22 c22 _ _ w22 (hf21.below hb22) hf22 sb3.out).mono ?_;rintro e w23 ⟨hb23,n23,A23,k23,c23,rfl,hf23⟩;have hr23:=hr22.trans (hb23.mono hr22.size);refine hK.out _ _ (fun _=>hSv9.out _ hr23) ?_;clear hK K
         try simp only [Act.put,Zgj,Zfx,Zge]
         refine Ze (i:=20) rfl (by kernel_rfl) (fun K hK=>?_);go_simp;refine (Zn7 n23 ln A23 lA k23 c23 lk lc _ _ w23 hf23 (hwl.below hr23) hl0.out).mono ?_;rintro e w24 ⟨hb24,n24,A24,k24,c24,rfl,hf24⟩;have hr24:=hr23.trans (hb24.mono hr23.size);refine hK.out _ _ (fun _=>hSv9.out _ hr24) ?_;clear hK K
         try simp only [Act.put,Zgj,Zfx,Zge]
         refine Zfy 1 [21] rfl (by kernel_rfl) (hSv9.out _ hr24) ?_
         (refine tk1 (v:=?_) rfl (Or.inl ⟨by kernel_rfl,?_⟩) ?_;rotate_left;(· intro W2 _;go_simp;try with_reducible rfl);try simp only [Act.put,Zgj,Zfx,Zge,putG_a,putG_s,putG_z])
         refine tk0 ?_;have hM5:=hM3.out.below hr24;obtain ⟨Z9,hZ9⟩:∃ W,(w24.setCell ⟨ri.g,t * 2,none⟩ (.bool n24)).setCell ⟨ri.g,t * 2+1,none⟩ (.slice A24 k24 c24)=W:=⟨_,rfl⟩
         have hgi:ri.g ∈ L3.map RZ.g:=by rw [<- hg4.out];exact List.mem_map.2 ⟨ri,List.mem_of_getElem? hri,rfl⟩
         have hK9:Hid (Kept (fun k=>k ∈ L3.map RZ.g) Wh Z9):=Za (by rw [<- hZ9];exact ((hK3.out.below hr24).set_ (p:=⟨ri.g,t * 2,none⟩) (.inl hgi) _).set_ (p:=⟨ri.g,t * 2+1,none⟩) (.inl hgi) _)
         have hM9:Hid (MatZ 89 43 Z9 go (L4.set i ⟨ri.g,q3.set t (Int.fdiv ((Zas L3 i)[t]?.getD 0 * (Zas L3 r)[c]?.getD 0 - (Zas L3 i)[c]?.getD 0 * (Zas L3 r)[t]?.getD 0) last)⟩)):=Za (by
          have h1:=hM5.set_ (i:=i) (r:=⟨ri.g,q3⟩) (by rw [List.getElem?_set,if_pos rfl,if_pos (by rw [hl4.out];exact hin)]) (k:=t) (by rw [show RZ.q ⟨ri.g,q3⟩=q3 from rfl,hl3q.out];exact htm) hf24;rw [List.set_set] at h1
          rw [<- hZ9];exact h1)
         have f0:=Zj hr24 u0 uz0;have f1:=Zj hr24 u1 uz1;have g0:=Zb hr24 u0;have g1:=Zb hr24 u1;clear hM5;refine Zu (i:=22) rfl (by kernel_rfl) (by kernel_rfl) (fun K hK=>?_);go_simp;(try rw [hZ9]);refine hK.out _ _ ?_;clear hK K
         try simp only [Act.put,Zgj,Zfx,Zge]
         refine Zk (by kernel_rfl) ?_ _;refine OnlyNormal.normal ?_;clear hZ9 f0 f1 g0 g1 hb21 hb22 hb23 hb24 hr9 hr21 hr22 hr23 hr24 hSv9 hxs9 u0 u1 uz0 uz1 q0' q1' s0 s1 h0 h1 x0 c1 cr l0 l1 hf21 hf22 hf23 hf24 hf5 hf4 hM3 hK3 hfr hfh hwl;go_wp2_with fail
         go_roundg (m - (t+1))
         case measure=>omega
         case rel=>exact ⟨t+1,_,by omega,by go_num,hM9.out,Za (by rw [List.length_set];exact hl3q.out),Za (Zve (by rw [hl3q.out,hm3.out i hin]) (by rw [hm3.out i hin];exact htm) rfl hq3.out),hK9.out⟩
end Go.Proofs.YtigdclhagmnopaaGreat
