/- Distances as a form of two vectors: that of the direction -/
import Derived.ChangeKeysEq
import Derived.Laws.StructEq
import Derived.Deep.LoopGhost
import Derived.Test.YtpehacgjclkhmaaGreatZx38
set_option maxRecDepth 100000
set_option maxHeartbeats 8000000
set_option linter.unusedSimpArgs false
set_option linter.unusedVariables false
namespace Go.Proofs.YtpehacgjclkhmaaGreat
def zV (A : Nat -> Nat -> Rat) (n : Nat) (x : Nat -> Rat) (s : Nat) : Rat:=Zk (brd A x n) s s n
def bil (A : Nat -> Nat -> Rat) (n : Nat) (x y : Nat -> Rat) : Rat:=Zar n (fun s=>zV A n x s * zV A n y s / dQ A s)
section
variable {A : Nat -> Nat -> Rat} {n : Nat}
theorem Zfz (x y : Nat -> Rat) (a b : Rat) : ∀ (t i : Nat),t <= n -> i < n -> Zk (brd A (fun i=>a * x i + b * y i) n) t i n = a * Zk (brd A x n) t i n + b * Zk (brd A y n) t i n
 | 0,i,_,hi=>by
  show brd A _ n i n = a * brd A x n i n + b * brd A y n i n;unfold brd;rw [if_pos hi,if_pos hi,if_pos hi,if_neg (Nat.lt_irrefl _),if_neg (Nat.lt_irrefl _),if_neg (Nat.lt_irrefl _)]
 | t + 1,i,ht,hi=>by
  by_cases hti : t < i
  ·rw [Zbe hti,Zbe hti,Zbe hti,Zfz x y a b t i (by omega) hi,Zfz x y a b t t (by omega) (by omega),
     Zd5 (A:=A) (fun i=>a * x i + b * y i) (t:=t) (i:=i) (k:=t) (by omega) (by omega) (by omega),Zd5 (A:=A) (fun i=>a * x i + b * y i) (t:=t) (i:=t) (k:=t) (by omega) (by omega) (by omega),Zd5 (A:=A) x (t:=t) (i:=i) (k:=t) (by omega) (by omega) (by omega),Zd5 (A:=A) x (t:=t) (i:=t) (k:=t) (by omega) (by omega) (by omega),Zd5 (A:=A) y (t:=t) (i:=i) (k:=t) (by omega) (by omega) (by omega),Zd5 (A:=A) y (t:=t) (i:=t) (k:=t) (by omega) (by omega) (by omega)]
   rw [Rat.div_def]
   grind
  ·have h1 : ∀ M : Nat -> Nat -> Rat,Zk M (t + 1) i n = Zk M t i n:=fun M=>by show (if t < i then _ else _) = _;rw [if_neg hti]
   rw [h1,h1,h1];exact Zfz x y a b t i (by omega) hi
theorem zV_lin (x y : Nat -> Rat) (a b : Rat) {s : Nat} (hs : s < n) : zV A n (fun i=>a * x i + b * y i) s = a * zV A n x s + b * zV A n y s:=Zfz x y a b s s (by omega) hs
theorem Zmq (x y z : Nat -> Rat) (a b : Rat) : bil A n (fun i=>a * x i + b * y i) z = a * bil A n x z + b * bil A n y z:=by
 unfold bil;rw [<- Znb]
 refine Zbf fun s hs=>?_
 rw [zV_lin x y a b hs,Rat.div_def,Rat.div_def,Rat.div_def]
 grind
theorem Ze8 (x y : Nat -> Rat) : bil A n x y = bil A n y x:=by
 unfold bil
 exact Zbf fun s _=>by rw [Rat.mul_comm]
theorem Zcv {x y z : Nat -> Rat} (h : ∀ i,i < n -> x i = y i) : bil A n x z = bil A n y z:=by
 unfold bil
 refine Zbf fun s hs=>?_
 have h1 : zV A n x s = zV A n y s:=by
  unfold zV
  exact Zbn (n:=n) (m:=n + 1) (fun i k hi hk=>by
   unfold brd;rw [if_pos hi,if_pos hi]
   split
   ·rfl
   ·exact h i hi) (by omega) s s n (by omega) hs (by omega)
 rw [h1]
theorem Zhe {k : Nat} (hk : k < n) : ∀ (t i : Nat),t <= n -> i < n -> Zk (brd A (fun i=>A i k) n) t i n = Zk A t i k
 | 0,i,_,hi=>by
  show brd A _ n i n = A i k;unfold brd;rw [if_pos hi,if_neg (Nat.lt_irrefl _)]
 | t + 1,i,ht,hi=>by
  by_cases hti : t < i
  ·rw [Zbe hti,Zbe hti,Zhe hk t i (by omega) hi,Zhe hk t t (by omega) (by omega),Zd5 _ (by omega) hi (by omega),Zd5 _ (by omega) (by omega) (by omega)]
  ·have h1 : ∀ (M : Nat -> Nat -> Rat) (c : Nat),Zk M (t + 1) i c = Zk M t i c:=fun M c=>by show (if t < i then _ else _) = _;rw [if_neg hti]
   rw [h1,h1];exact Zhe hk t i (by omega) hi
theorem brd_tL (x : Nat -> Rat) {i s : Nat} (hi : i < n) (hs : s < n) : tL (brd A x n) i s = tL A i s:=by unfold tL;rw [brd_l x hi hs]
theorem bil_col (hA : ∀ i k,i < n -> k < n -> A i k = A k i) (hp : posP A n) (hU : ∀ i j,i < n -> j < i -> Zk A i i j = 0) {k : Nat} (hk : k < n) (y : Nat -> Rat) : bil A n (fun i=>A i k) y = y k:=by
 have h1:=Zt1 (A:=brd A y n) (c:=n) (n:=n) hk
 have h2 : brd A y n k n = y k:=by unfold brd;rw [if_pos hk,if_neg (Nat.lt_irrefl _)]
 rw [<- h2,h1];unfold bil
 refine Zbf fun s hs=>?_
 have hd:=hp.ne hs;rw [brd_tL y hk hs];unfold zV;rw [Zhe hk s s (by omega) hs,Zsy hA hp hU hs hk]
 grind
theorem Zo0 (hp : posP A n) (x : Nat -> Rat) : 0 <= bil A n x x:=by
 have h1:=Znu (A:=brd A x n) (c:=n) ((Znc x (Nat.le_refl n)).2 hp);unfold Zn7 at h1;unfold bil zV;rw [Zbf (g:=fun s=>Zk (brd A x n) s s n * Zk (brd A x n) s s n / dQ (brd A x n) s) (fun s hs=>by rw [Ziz x hs])];exact h1
theorem Zuc (x : Nat -> Rat) : bil A n x x = Zn7 (brd A x n) n n:=by
 unfold bil Zn7 zV
 exact Zbf fun s hs=>by rw [Ziz x hs]
theorem Zup (hp : posP A n) {x : Nat -> Rat} (h : bil A n x x = 0) {i : Nat} (hi : i < n) : x i = 0:=by
 rw [Zuc] at h;have h1:=Zsb (A:=brd A x n) (c:=n) ((Znc x (Nat.le_refl n)).2 hp) h hi
 have h2 : brd A x n i n = x i:=by unfold brd;rw [if_pos hi,if_neg (Nat.lt_irrefl _)]
 rw [<- h2];exact h1
theorem Zsn (hA : ∀ i k,i < n -> k < n -> A i k = A k i) (hp : posP A n) (hU : ∀ i j,i < n -> j < i -> Zk A i i j = 0) {k : Nat} (hk : k < n) (hc : A k k ≠ 0) {δ : Nat -> Rat} (hδ : δ k = 0) :
    bil A n (fun i=>A i k / A k k) (fun i=>A i k / A k k) = 1 / A k k /\ bil A n (fun i=>A i k / A k k + δ i) (fun i=>A i k / A k k + δ i) = 1 / A k k + bil A n δ δ:=by
 have hd : ∀ y,bil A n (fun i=>A i k / A k k) y = y k / A k k:=fun y=>by
  rw [Zcv (y:=fun i=>(1 / A k k) * A i k + 0 * A i k) (fun i _=>by grind),Zmq,bil_col hA hp hU hk]
  grind
 have h1 : bil A n (fun i=>A i k / A k k) (fun i=>A i k / A k k) = 1 / A k k:=by rw [hd];grind
 refine ⟨h1,?_⟩
 have h2 : ∀ z,bil A n (fun i=>A i k / A k k + δ i) z = bil A n (fun i=>A i k / A k k) z + bil A n δ z:=fun z=>by
  rw [Zcv (y:=fun i=>1 * (A i k / A k k) + 1 * δ i) (fun i _=>by grind),Zmq]
  grind
 rw [h2,Ze8 (fun i=>A i k / A k k),Ze8 δ,h2,h2,h1,hd,Ze8 δ,hd,hδ]
 grind
end
open Go.RowKit
theorem Za6 {w : World} (t : TypeId) (cs : Array Value) : ∃ W,w.alloc (.cells cs t) = W /\ Blk W w.heap.size t cs /\ Below w.heap.size w W:=
 ⟨_,rfl,Blk.new _ _ _,(Below.refl _ _).alloc (Nat.le_refl _) _⟩
attribute [local go_sem] Zg
structure Zmz (A : Nat -> Nat -> Rat) (n : Nat) (x : Nat -> Rat) : Prop where
 a : ∀ t i,t <= i -> i < n -> Sm (Zk (brd A x n) t i n)
 l : ∀ i t,t < i -> i < n -> Sm (lQ A i t)
 ly : ∀ i t,t < i -> i < n -> Sm (lQ A i t * Zk (brd A x n) t t n)
 zz : ∀ i,i < n -> Sm (zV A n x i * zV A n x i)
 d : ∀ i,i < n -> Sm (dQ A i)
 q : ∀ i,i < n -> Sm (zV A n x i * zV A n x i / dQ A i)
 s : ∀ i,i <= n -> Sm (Zar i (fun s=>zV A n x s * zV A n x s / dQ A s))
def zL (A : Nat -> Nat -> Rat) (n : Nat) (x : Nat -> Rat) (i : Nat) : List Rat:=(List.range i).map (zV A n x)
section
variable {A : Nat -> Nat -> Rat} {n i k : Nat} {x : Nat -> Rat}
theorem Zpl : (zL A n x i).length = i:=by simp [zL]
theorem zL_at (h : k < i) : (zL A n x i)[k]?.getD 0 = zV A n x k:=by simp [zL,h]
theorem zL_succ : zL A n x (i + 1) = zL A n x i ++ [zV A n x i]:=by simp [zL,List.range_succ]
theorem Zld (hki : k < i) (hi : i < n) : Zk (brd A x n) (k + 1) i n = Zk (brd A x n) k i n - lQ A i k * zV A n x k:=by
 rw [Zla hki,brd_l x hi (by omega)];rfl
end
theorem sumF2 (s q : Rat) : sumF [s,q] 2 = s + q:=by
 show (0 + s) + q = _
 grind
theorem Zor {a b : Rat} (h : Sm a) : ∀ j,j < 1 -> Sm (Zf4 a [b] j):=fun j hj=>by
 obtain rfl : j = 0:=by omega
 exact h
theorem Zqs {b : Rat} (h : Sm b) : ∀ j : Nat,j < 1 -> Sm ([b][j]?.getD 0):=fun j hj=>by
 obtain rfl : j = 0:=by omega
 exact h
theorem sm_sum2 {a b : Rat} (h : Sm a) : ∀ j,j < 2 -> Sm (sumF [a,b] j):=fun j hj=>by
 rcases (show j = 0 \/ j = 1 by omega) with rfl | rfl
 ·exact (SmN.int (i:=2) (n:=0) (by decide +kernel)).sm (by decide) (by decide)
 ·have e : sumF [a,b] 1 = a:=by
    show 0 + a = a
    grind
  rw [e];exact h
theorem sm_two {a b : Rat} (h : Sm a) (k : Sm b) : ∀ j : Nat,j < 2 -> Sm ([a,b][j]?.getD 0):=fun j hj=>by
 rcases (show j = 0 \/ j = 1 by omega) with rfl | rfl
 ·exact h
 ·exact k
theorem Zt7 (a b : Rat) : Zf4 a [b] 1 = a * b:=rfl
theorem Zto (A1 A2 V : Option Addr) (n c1 c2 cv : Nat) (AQ : Nat -> Nat -> Rat) (xs : List Rat) (w : World) (hn6 : n <= 6) (hM : MFL w A1 n c1 (Zey AQ n)) (hD : FL w A2 n c2 (dsL AQ n)) (hV : FL w V n cv xs) (hp : posP AQ n) (hS : Zmz AQ n (fun i=>xs[i]?.getD 0)) :
    Calls Tryz.prog 45 #[.agg #[.slice A1 n c1,.slice A2 n c2],.slice V n cv] w (Zcu w (bil AQ n (fun i=>xs[i]?.getD 0) (fun i=>xs[i]?.getD 0))):=by
 obtain ⟨iN,hi,hz0,hz1,hz2⟩:=info_parts Zqj
 have hmx : Tryz.prog.follows .mixedOrders = true:=by kernel_rfl
 have hcapV:=hV.cap;have hcap1:=hM.2.1;have hcap1':=hM.2.2.1;have hcap2:=hD.cap;unfold maxLen at hcapV hcap1' hcap2;obtain ⟨X,hXx⟩ : ∃ X : Nat -> Rat,(fun i : Nat=>xs[i]?.getD 0) = X:=⟨_,rfl⟩;have hxs : Hid (∀ i : Nat,xs[i]?.getD 0 = X i):=Zb (fun i=>by rw [<- hXx]);rw [hXx] at hS ⊢;replace hS:=Zb hS;replace hp:=Zb hp;clear hXx;obtain ⟨W0,hW0,hB0,⟨qf,qr⟩,s0⟩:=Zd4 w 86 #[.slice A1 n c1,.slice A2 n c2] 91 #[.bool false,.slice none 0 0,.bool false,.slice none 0 0];obtain ⟨gf,hgf⟩ : ∃ g,w.heap.size = g:=⟨_,rfl⟩;replace hM:=Zb (hM.below hB0);replace hD:=Zb (hD.below hB0);replace hV:=Zb (hV.below hB0);rw [hgf] at qf qr s0;replace hB0:=Zb hB0;replace qf:=Zb qf;replace qr:=Zb qr;have s0':=Zb s0;clear s0;go_enter Tryz.func45,Tryz.ntmps45;go_wp2_with fail;(try rw [hW0]);(try rw [hgf]);clear hW0;replace hgf:=Zb hgf;refine (Zsx 0 W0 (by decide) (by decide)).mono ?_;rintro e w1 ⟨hbs,sn,sA,sk,sc,sm,sB,sj,sd,rfl,sf⟩;replace hM:=Zb (hM.out.below hbs);replace hD:=Zb (hD.out.below hbs);replace hV:=Zb (hV.out.below hbs);replace qf:=Zb (Zc hbs qf.out);replace qr:=Zb (Zc hbs qr.out);have hB2:=Zb (hB0.out.trans (hbs.mono hB0.out.size));clear hB0;clear hbs;replace sf:=Zb sf;have hM1:=hM;have hD1:=hD;have hV1:=hV;have hBw1:=hB2;have qf1:=qf;have qr1:=qr;clear hM hD hV;obtain ⟨g3,hg4⟩ : ∃ g,w1.heap.size = g:=⟨_,rfl⟩;obtain ⟨V5,hV6,q7,hb8⟩:=Za6 (w:=w1) 91 #[.bool sn,.slice sA sk sc,.bool sm,.slice sB sj sd];rw [hg4] at q7;have hbG:=Zb hb8;replace qf:=Zb (Zc hb8 qf.out);replace qr:=Zb (Zc hb8 qr.out)
 replace sf:=Zb (sf.out.below hb8);have hB9:=Zb (hB2.out.trans (hb8.mono hB2.out.size));clear hB2;clear hb8;replace q7:=Zb q7;have hszV0 : Hid (w1.heap.size + 1 = V5.heap.size):=Zb (by rw [<- hV6];simp);go_wp2_with fail;(try rw [hg4]);(try rw [hV6]);clear hV6;replace hg4:=Zb hg4;have hs0 : Hid (Zar 0 (fun s=>zV AQ n X s * zV AQ n X s / dQ AQ s) = ((0 : Int) : Rat)):=Zb rfl;replace sf : Hid (Fr V5 sn sA sk sc sm sB sj sd (Zar 0 (fun s=>zV AQ n X s * zV AQ n X s / dQ AQ s))):=Zb (by rw [hs0.out];exact sf.out)
 have hszV : Hid (V5.heap.size = g3 + 1 /\ gf + 1 < g3):=Zb ⟨by
  have h2:=hg4.out;have h3:=hszV0.out
  omega,by
  have h2:=hg4.out;have h5:=qr1.out.lt
  omega⟩
 clear hs0 qf qr
 go_loopg [6,7,8,9,10,11,15] n (fun t yv v7 v8 v9 v10 v11 iv wr=>∃ (i : Nat) (sn : Bool) (sA : Option Addr) (sk sc : Nat) (sm : Bool) (sB : Option Addr) (sj sd : Nat),i + t = n /\ iv = .int .i64 i /\ Hid (OwnF 91 wr V5.heap.size yv (zL AQ n X i)) /\ Hid (Blk wr g3 91 #[.bool sn,.slice sA sk sc,.bool sm,.slice sB sj sd]) /\ Hid (Fr wr sn sA sk sc sm sB sj sd (Zar i (fun s=>zV AQ n X s * zV AQ n X s / dQ AQ s))) /\ Hid (Kept (fun k=>k = g3) V5 wr))
 case atStart=>exact ⟨0,_,_,_,_,_,_,_,_,by omega,rfl,Zb (OwnF.nil _ _ _),q7,sf,Zb (Kept.refl _ _)⟩
 case round =>
  obtain ⟨wi,rfl⟩ : ∃ x : World,x = wr:=⟨_,rfl⟩;clear q7 sf;obtain ⟨i,sn,sA,sk,sc,sm,sB,sj,sd,hit,rfl,hO,qs,hs,hK⟩:=hrel;have hBr : Hid (Below w1.heap.size w1 wi):=Zb (hbG.out.trans (hK.out.to_below (fun k e=>by rw [e];exact Nat.le_of_eq hg4.out) hbG.out.size));have sBr:=hBr.out.size;obtain ⟨sz1,sz2⟩:=hszV.out;have sKi:=hK.out.size;have sw1 : w1.heap.size = g3:=hg4.out;obtain ⟨Ay,cy,ey,hFy⟩:=hO.out.fl;rw [Zpl] at ey hFy;subst ey;have hcy:=hFy.cap;unfold maxLen at hcy;replace hFy:=Zb hFy;replace sw1:=Zb sw1
  cases gk with
  | zero =>
   obtain rfl : i = n:=by omega
   have t1 : decide ((i : Int) < (i : Int)) = false:=by simp
   have qR:=Zc hBr.out qr1.out;obtain ⟨c0,c1,c2,c3,z0,z1,z2,z3⟩:=qR.four;obtain ⟨x0,x1,x2,x3,-⟩:=qs.out.four;obtain ⟨W5,hW5,q5,hK5,s5⟩:=Zaf sn sA sk sc sm sB sj sd qR;go_wp2_with fail;(try rw [hW5]);obtain ⟨r0,r1,r2,r3,-⟩:=q5.four;refine bodyPost_ret (v:=.agg #[.bool sn,.slice sA sk sc,.bool sm,.slice sB sj sd]) (by simp [results,Tryz.results45,go_sem,r0,r1,r2,r3]) rfl ?_;refine ⟨?_,_,_,_,_,_,_,_,_,rfl,hs.out.keptN hK5 qR (Zao _ _ _ _ _ _ _ _)⟩;exact (hBw1.out.trans (hBr.out.mono hBw1.out.size)).trans (hK5.to_below (fun k e=>by have:=hgf.out;omega) (by have:=hBw1.out.size;omega))
  | succ t' =>
   obtain rfl : t' = n - (i + 1):=by omega
   have hin : i < n:=by omega
   have t1 : decide ((i : Int) < (n : Int)) = true:=decide_eq_true (by omega)
   have bi : (i : Int) < (n : Int):=by omega
   obtain ⟨gv,ov,fn,fA,fk,fc,fm,fB,fj,fd,rfl,⟨f0,f1,f2,f3⟩,hf⟩:=(hV1.out.below hBr.out).at_ hin;rw [hxs.out] at hf;obtain ⟨V8,hV8,q8,hb8⟩:=Za6 (w:=wi) 29 #[.bool fn,.slice fA fk fc,.bool fm,.slice fB fj fd];obtain ⟨V9,hV9,q9,hb9⟩:=Za6 (w:=V8) 91 #[.bool fn,.slice fA fk fc,.bool fm,.slice fB fj fd];obtain ⟨g8,hg8⟩ : ∃ g,wi.heap.size = g:=⟨_,rfl⟩
   have e89 : V8.heap.size = g8 + 1:=by rw [<- hV8,<- hg8];simp
   have e99 : V9.heap.size = g8 + 1 + 1:=by rw [<- hV9,<- e89];simp
   rw [e89] at q9;have hb89 : Below wi.heap.size wi V9:=hb8.trans (hb9.mono hb8.size)
   have hA0 : Hid (Fr V9 fn fA fk fc fm fB fj fd (Zk (brd AQ X n) 0 i n)):=Zb (by
    have e : Zk (brd AQ X n) 0 i n = X i:=by
     show brd AQ X n i n = X i;unfold brd;rw [if_pos hin,if_neg (Nat.lt_irrefl _)]
    rw [e];exact hf.below hb89)
   replace hb89:=Zb hb89;replace q9:=Zb q9;replace hg8:=Zb hg8;replace hV8:=Zb hV8;replace hV9:=Zb hV9;replace e99:=Zb e99;clear q8 hb8 hb9 e89 hf;go_wp2_with fail;rw [hV8.out,hg8.out,hV9.out];clear hV8 hV9 f0 f1 f2 f3
   go_loopg [10,11,24] i (fun t v10 v11 kv wk=>∃ (k : Nat) (an : Bool) (aA : Option Addr) (ak ac : Nat) (am : Bool) (aB : Option Addr) (aj ad : Nat),k + t = i /\ kv = .int .i64 k /\ Hid (Blk wk (g8 + 1) 91 #[.bool an,.slice aA ak ac,.bool am,.slice aB aj ad]) /\ Hid (Fr wk an aA ak ac am aB aj ad (Zk (brd AQ X n) k i n)) /\ Hid (Kept (fun k=>k = g8 + 1) V9 wk))
   case atStart=>exact ⟨0,_,_,_,_,_,_,_,_,by omega,rfl,q9,hA0,Zb (Kept.refl _ _)⟩
   case round =>
    clear q9 hA0;obtain ⟨wk,rfl⟩ : ∃ x : World,x = wr:=⟨_,rfl⟩;obtain ⟨k,an,aA,ak,ac,am,aB,aj,ad,hkt,rfl,qa,hA,hK9⟩:=hrel;have hg8':=hg8.out;have e99':=e99.out;have hBk : Hid (Below wi.heap.size wi wk):=Zb (hb89.out.trans (hK9.out.to_below (fun k e=>by omega) (by omega)));have hBwk : Hid (Below w1.heap.size w1 wk):=Zb (hBr.out.trans (hBk.out.mono hBr.out.size));have sBk:=hBk.out.size
    cases gk with
    | succ t' =>
     obtain rfl : t' = i - (k + 1):=by omega
     have hki : k < i:=by omega
     have t2 : decide ((k : Int) < (i : Int)) = true:=decide_eq_true (by omega)
     have bk : (k : Int) < (i : Int):=by omega
     obtain ⟨gy,oy,bn,bA,bk',bc,bm,bB,bj,bd,rfl,⟨b0,b1,b2,b3⟩,hb⟩:=(hFy.out.below hBk.out).at_ hki;rw [zL_at hki] at hb;obtain ⟨gm,om,Ar,nr,cr,eA1,m0,hR⟩:=(hM1.out.below hBwk.out).at_ hin;subst eA1;rw [Zjq hin] at hR
     obtain rfl : i = nr:=by rw [<- hR.len,Zd6]
     have hcr:=hR.cap;unfold maxLen at hcr;obtain ⟨gr,or_,ln,lA,lk,lc,lm,lB,lj,ld,rfl,⟨l0,l1,l2,l3⟩,hl⟩:=hR.at_ hki;rw [Zia hki] at hl;clear hR;have hb1:=Zb hb;have hl1:=Zb hl;have qs2:=Zb (Zc hBwk.out qf1.out);clear hb hl;obtain ⟨g501,hg502⟩ : ∃ g,wk.heap.size = g:=⟨_,rfl⟩;obtain ⟨V503,hV504,q505,hb506⟩:=Za6 (w:=wk) 91 #[.bool bn,.slice bA bk' bc,.bool bm,.slice bB bj bd];rw [hg502] at q505;replace qa:=Zb (Zc hb506 qa.out);replace hA:=Zb (hA.out.below hb506);replace hK9:=Zb (hK9.out.below hb506);replace hb1:=Zb (hb1.out.below hb506);replace hl1:=Zb (hl1.out.below hb506);replace qs2:=Zb (Zc hb506 qs2.out);have hB507:=Zb (hBk.out.trans (hb506.mono hBk.out.size));clear hBk;clear hb506;replace q505:=Zb q505;go_wp2_with fail;(try rw [hg502]);(try rw [hV504]);clear hV504;replace hg502:=Zb hg502;have hBw11 : Hid (Below w1.heap.size w1 V503):=Zb (hBr.out.trans (hB507.out.mono hBr.out.size));obtain ⟨gm',om',Ar',nr',cr',eA1,m1,hR⟩:=(hM1.out.below hBw11.out).at_ hin
     cases eA1
     rw [Zjq hin] at hR
     obtain rfl : i = nr':=by rw [<- hR.len,Zd6]
     have hcr2:=hR.cap;unfold maxLen at hcr2;obtain ⟨gr',or',ln',lA',lk',lc',lm',lB',lj',ld',eA2,⟨l0',l1',l2',l3'⟩,hl2⟩:=hR.at_ hki;subst eA2;rw [Zia hki] at hl2;have hl3:=Zb hl2;clear hl2 hR m0 l0 l1 l2 l3 hl1;have cc508 : V503.cell? ⟨g8 + 1,0,none⟩ = some (.bool an):=qa.out.cell 0;have cc509 : V503.cell? ⟨g8 + 1,1,none⟩ = some (.slice aA ak ac):=qa.out.cell 1;have cc510 : V503.cell? ⟨g8 + 1,2,none⟩ = some (.bool am):=qa.out.cell 2;have cc511 : V503.cell? ⟨g8 + 1,3,none⟩ = some (.slice aB aj ad):=qa.out.cell 3;have cc512 : V503.cell? ⟨g501,0,none⟩ = some (.bool bn):=q505.out.cell 0;have cc513 : V503.cell? ⟨g501,1,none⟩ = some (.slice bA bk' bc):=q505.out.cell 1;have cc514 : V503.cell? ⟨g501,2,none⟩ = some (.bool bm):=q505.out.cell 2;have cc515 : V503.cell? ⟨g501,3,none⟩ = some (.slice bB bj bd):=q505.out.cell 3;have cc516 : V503.cell? ⟨gf,0,none⟩ = some (.slice (some ⟨gm,om,none⟩) n c1):=qs2.out.cell 0;have hr517 : Below V503.heap.size V503 V503.drew:=Zj (Below.refl _ _) 1;replace qa:=Zb (Zc hr517 qa.out);replace hA:=Zb (hA.out.below hr517);replace hK9:=Zb (hK9.out.below hr517);replace hb1:=Zb (hb1.out.below hr517);replace qs2:=Zb (Zc hr517 qs2.out);replace q505:=Zb (Zc hr517 q505.out);replace hl3:=Zb (hl3.out.below hr517);have hB518:=Zb (hB507.out.trans (hr517.mono hB507.out.size));clear hB507;replace m1:=Za hr517 m1;replace l0':=Za hr517 l0';replace l1':=Za hr517 l1';replace l2':=Za hr517 l2';replace l3':=Za hr517 l3';replace cc508:=Za hr517 cc508
     replace cc509:=Za hr517 cc509;replace cc510:=Za hr517 cc510;replace cc511:=Za hr517 cc511;replace cc512:=Za hr517 cc512;replace cc513:=Za hr517 cc513;replace cc514:=Za hr517 cc514;replace cc515:=Za hr517 cc515;replace cc516:=Za hr517 cc516;clear hr517;refine Z4 [13] (fun wx=>(wx.cell? ⟨gm,om + i,none⟩ = some (.slice (some ⟨gr',or',none⟩) i cr')) /\ (wx.cell? ⟨gr',or' + k * 4,none⟩ = some (.bool ln')) /\ (wx.cell? ⟨gr',or' + k * 4 + 1,none⟩ = some (.slice lA' lk' lc')) /\ (wx.cell? ⟨gr',or' + k * 4 + 2,none⟩ = some (.bool lm')) /\ (wx.cell? ⟨gr',or' + k * 4 + 3,none⟩ = some (.slice lB' lj' ld')) /\ (wx.cell? ⟨g8 + 1,0,none⟩ = some (.bool an)) /\ (wx.cell? ⟨g8 + 1,1,none⟩ = some (.slice aA ak ac)) /\ (wx.cell? ⟨g8 + 1,2,none⟩ = some (.bool am)) /\ (wx.cell? ⟨g8 + 1,3,none⟩ = some (.slice aB aj ad)) /\ (wx.cell? ⟨g501,0,none⟩ = some (.bool bn)) /\ (wx.cell? ⟨g501,1,none⟩ = some (.slice bA bk' bc)) /\ (wx.cell? ⟨g501,2,none⟩ = some (.bool bm)) /\ (wx.cell? ⟨g501,3,none⟩ = some (.slice bB bj bd)) /\ (wx.cell? ⟨gf,0,none⟩ = some (.slice (some ⟨gm,om,none⟩) n c1))) hmx ⟨m1,l0',l1',l2',l3',cc508,cc509,cc510,cc511,cc512,cc513,cc514,cc515,cc516⟩ (fun _=>?_);refine Zd (i:=0) (v:=?vt1) rfl (by kernel_rfl) (by kernel_rfl) (by kernel_rfl) (by kernel_rfl) (by kernel_rfl) (Or.inl ⟨by kernel_rfl,?hyt1⟩) ⟨m1,l0',l1',l2',l3',cc508,cc509,cc510,cc511,cc512,cc513,cc514,cc515,cc516⟩ ?rt1
     case hyt1=>(intro W2 hSw;(try dsimp only at hSw);go_simp;try with_reducible rfl)
     try simp only [Act.put,putL_a,putL_z,putL_s,putG_a,putG_s,putG_z]
     refine Zd (i:=1) (v:=?vt2) rfl (by kernel_rfl) (by kernel_rfl) (by kernel_rfl) (by kernel_rfl) (by kernel_rfl) (Or.inl ⟨by kernel_rfl,?hyt2⟩) ⟨m1,l0',l1',l2',l3',cc508,cc509,cc510,cc511,cc512,cc513,cc514,cc515,cc516⟩ ?rt2
     case hyt2=>(intro W2 hSw;(try dsimp only at hSw);go_simp;try with_reducible rfl)
     try simp only [Act.put,putL_a,putL_z,putL_s,putG_a,putG_s,putG_z]
     refine Zd (i:=2) (v:=?vt3) rfl (by kernel_rfl) (by kernel_rfl) (by kernel_rfl) (by kernel_rfl) (by kernel_rfl) (Or.inl ⟨by kernel_rfl,?hyt3⟩) ⟨m1,l0',l1',l2',l3',cc508,cc509,cc510,cc511,cc512,cc513,cc514,cc515,cc516⟩ ?rt3
     case hyt3=>(intro W2 hSw;(try dsimp only at hSw);go_simp;try with_reducible rfl)
     try simp only [Act.put,putL_a,putL_z,putL_s,putG_a,putG_s,putG_z]
     refine Zd (i:=3) (v:=?vt4) rfl (by kernel_rfl) (by kernel_rfl) (by kernel_rfl) (by kernel_rfl) (by kernel_rfl) (Or.inl ⟨by kernel_rfl,?hyt4⟩) ⟨m1,l0',l1',l2',l3',cc508,cc509,cc510,cc511,cc512,cc513,cc514,cc515,cc516⟩ ?rt4
     case hyt4=>(intro W2 hSw;(try dsimp only at hSw);go_simp;try with_reducible rfl)
     try simp only [Act.put,putL_a,putL_z,putL_s,putG_a,putG_s,putG_z]
     refine Zd (i:=4) (v:=?vt5) rfl (by kernel_rfl) (by kernel_rfl) (by kernel_rfl) (by kernel_rfl) (by kernel_rfl) (Or.inl ⟨by kernel_rfl,?hyt5⟩) ⟨m1,l0',l1',l2',l3',cc508,cc509,cc510,cc511,cc512,cc513,cc514,cc515,cc516⟩ ?rt5
     case hyt5=>(intro W2 hSw;(try dsimp only at hSw);go_simp;try with_reducible rfl)
     try simp only [Act.put,putL_a,putL_z,putL_s,putG_a,putG_s,putG_z]
     refine Zd (i:=5) (v:=?vt6) rfl (by kernel_rfl) (by kernel_rfl) (by kernel_rfl) (by kernel_rfl) (by kernel_rfl) (Or.inl ⟨by kernel_rfl,?hyt6⟩) ⟨m1,l0',l1',l2',l3',cc508,cc509,cc510,cc511,cc512,cc513,cc514,cc515,cc516⟩ ?rt6
     case hyt6=>(intro W2 hSw;(try dsimp only at hSw);go_simp;try with_reducible rfl)
     try simp only [Act.put,putL_a,putL_z,putL_s,putG_a,putG_s,putG_z]
     refine Zd (i:=6) (v:=?vt7) rfl (by kernel_rfl) (by kernel_rfl) (by kernel_rfl) (by kernel_rfl) (by kernel_rfl) (Or.inl ⟨by kernel_rfl,?hyt7⟩) ⟨m1,l0',l1',l2',l3',cc508,cc509,cc510,cc511,cc512,cc513,cc514,cc515,cc516⟩ ?rt7
     case hyt7=>(intro W2 hSw;(try dsimp only at hSw);go_simp;try with_reducible rfl)
     try simp only [Act.put,putL_a,putL_z,putL_s,putG_a,putG_s,putG_z]
     refine Zd (i:=7) (v:=?vt8) rfl (by kernel_rfl) (by kernel_rfl) (by kernel_rfl) (by kernel_rfl) (by kernel_rfl) (Or.inl ⟨by kernel_rfl,?hyt8⟩) ⟨m1,l0',l1',l2',l3',cc508,cc509,cc510,cc511,cc512,cc513,cc514,cc515,cc516⟩ ?rt8
     case hyt8=>(intro W2 hSw;(try dsimp only at hSw);go_simp;try with_reducible rfl)
     try simp only [Act.put,putL_a,putL_z,putL_s,putG_a,putG_s,putG_z]
     refine Zd (i:=8) (v:=?vt9) rfl (by kernel_rfl) (by kernel_rfl) (by kernel_rfl) (by kernel_rfl) (by kernel_rfl) (Or.inl ⟨by kernel_rfl,?hyt9⟩) ⟨m1,l0',l1',l2',l3',cc508,cc509,cc510,cc511,cc512,cc513,cc514,cc515,cc516⟩ ?rt9
     case hyt9=>(intro W2 hSw;(try dsimp only at hSw);go_simp;try with_reducible rfl)
     try simp only [Act.put,putL_a,putL_z,putL_s,putG_a,putG_s,putG_z]
     refine Zd (i:=9) (v:=?vt10) rfl (by kernel_rfl) (by kernel_rfl) (by kernel_rfl) (by kernel_rfl) (by kernel_rfl) (Or.inl ⟨by kernel_rfl,?hyt10⟩) ⟨m1,l0',l1',l2',l3',cc508,cc509,cc510,cc511,cc512,cc513,cc514,cc515,cc516⟩ ?rt10
     case hyt10=>(intro W2 hSw;(try dsimp only at hSw);go_simp;try with_reducible rfl)
     try simp only [Act.put,putL_a,putL_z,putL_s,putG_a,putG_s,putG_z]
     obtain ⟨g519,hg520⟩ : ∃ g,V503.drew.heap.size = g:=⟨_,rfl⟩;obtain ⟨V521,hV522,q523,hb524⟩:=Za6 (w:=V503.drew) 91 #[.bool bn,.slice bA bk' bc,.bool bm,.slice bB bj bd];rw [hg520] at q523;refine Ze (i:=10) rfl (by kernel_rfl) (fun K hK=>?_);go_simp;(try rw [hg520]);(try rw [hV522]);clear hV522;replace qa:=Zb (Zc hb524 qa.out);replace hA:=Zb (hA.out.below hb524);replace hK9:=Zb (hK9.out.below hb524);replace hb1:=Zb (hb1.out.below hb524);replace qs2:=Zb (Zc hb524 qs2.out);replace q505:=Zb (Zc hb524 q505.out);replace hl3:=Zb (hl3.out.below hb524);have hB525:=Zb (hB518.out.trans (hb524.mono hB518.out.size));clear hB518;replace m1:=Za hb524 m1;replace l0':=Za hb524 l0';replace l1':=Za hb524 l1';replace l2':=Za hb524 l2';replace l3':=Za hb524 l3';replace cc508:=Za hb524 cc508;replace cc509:=Za hb524 cc509;replace cc510:=Za hb524 cc510;replace cc511:=Za hb524 cc511;replace cc512:=Za hb524 cc512;replace cc513:=Za hb524 cc513;replace cc514:=Za hb524 cc514;replace cc515:=Za hb524 cc515;replace cc516:=Za hb524 cc516;clear hb524;replace q523:=Zb q523;replace hg520:=Zb hg520;refine hK.out _ _ (fun _=>⟨m1,l0',l1',l2',l3',cc508,cc509,cc510,cc511,cc512,cc513,cc514,cc515,cc516⟩) ?_;clear hK K
     try simp only [Act.put,putL_a,putL_z,putL_s,putG_a,putG_s,putG_z]
     have hFb:=FL.sing1 q523.out hb1.out;replace hFb:=Zb hFb;have sl : Sm (lQ AQ i k):=hS.out.l i k hki hin;have sz : Sm (zV AQ n X k):=hS.out.a k k (Nat.le_refl _) (by omega);refine Ze (i:=11) rfl (by kernel_rfl) (fun K hK=>?_);go_simp;refine (Zfu ln' lA' lk' lc' lm' lB' lj' ld' _ (some ⟨g519,0,none⟩) 1 1 [zV AQ n X k] V521 hl3.out hFb.out (by decide) (Zor sl) (Zqs sz)).mono ?_;rintro e w526 ⟨hbP,pn,pA,pk,pc,pm,pB,pj,pd,rfl,pf⟩;replace qa:=Zb (Zc hbP qa.out);replace hA:=Zb (hA.out.below hbP);replace hK9:=Zb (hK9.out.below hbP);replace hb1:=Zb (hb1.out.below hbP);replace qs2:=Zb (Zc hbP qs2.out);replace q505:=Zb (Zc hbP q505.out);replace hl3:=Zb (hl3.out.below hbP);replace q523:=Zb (Zc hbP q523.out);replace hFb:=Zb (hFb.out.below hbP);have hB527:=Zb (hB525.out.trans (hbP.mono hB525.out.size));clear hB525;replace m1:=Za hbP m1;replace l0':=Za hbP l0';replace l1':=Za hbP l1';replace l2':=Za hbP l2';replace l3':=Za hbP l3';replace cc508:=Za hbP cc508;replace cc509:=Za hbP cc509;replace cc510:=Za hbP cc510;replace cc511:=Za hbP cc511;replace cc512:=Za hbP cc512;replace cc513:=Za hbP cc513;replace cc514:=Za hbP cc514;replace cc515:=Za hbP cc515;replace cc516:=Za hbP cc516;clear hbP;rw [Zt7] at pf;replace pf:=Zb pf;refine hK.out _ _ (fun _=>⟨m1,l0',l1',l2',l3',cc508,cc509,cc510,cc511,cc512,cc513,cc514,cc515,cc516⟩) ?_;clear hK K
     try simp only [Act.put,putL_a,putL_z,putL_s,putG_a,putG_s,putG_z]
     refine Ze (i:=12) rfl (by kernel_rfl) (fun K hK=>?_);go_simp;refine (Zhh an am pn pm aA aB pA pB ak ac aj ad pk pc pj pd _ _ w526 hA.out pf.out (hS.out.a k i (by omega) hin) (hS.out.ly i k hki hin)).mono ?_;rintro e w528 ⟨hbR,rn,rA,rk,rc,rm,rB,rj,rd,rfl,rf⟩;replace qa:=Zb (Zc hbR qa.out);replace hA:=Zb (hA.out.below hbR);replace hK9:=Zb (hK9.out.below hbR);replace hb1:=Zb (hb1.out.below hbR);replace qs2:=Zb (Zc hbR qs2.out);replace q505:=Zb (Zc hbR q505.out);replace hl3:=Zb (hl3.out.below hbR);replace q523:=Zb (Zc hbR q523.out);replace hFb:=Zb (hFb.out.below hbR);replace pf:=Zb (pf.out.below hbR);have hB529:=Zb (hB527.out.trans (hbR.mono hB527.out.size));clear hB527;replace m1:=Za hbR m1;replace l0':=Za hbR l0';replace l1':=Za hbR l1';replace l2':=Za hbR l2';replace l3':=Za hbR l3';replace cc508:=Za hbR cc508;replace cc509:=Za hbR cc509;replace cc510:=Za hbR cc510;replace cc511:=Za hbR cc511;replace cc512:=Za hbR cc512;replace cc513:=Za hbR cc513;replace cc514:=Za hbR cc514;replace cc515:=Za hbR cc515;replace cc516:=Za hbR cc516;clear hbR;rw [<- Zld hki hin] at rf;replace rf:=Zb rf;refine hK.out _ _ (fun _=>⟨m1,l0',l1',l2',l3',cc508,cc509,cc510,cc511,cc512,cc513,cc514,cc515,cc516⟩) ?_;clear hK K
     try simp only [Act.put,putL_a,putL_z,putL_s,putG_a,putG_s,putG_z]
     obtain ⟨fz0,fz1,fz2,fz3⟩ : w528.frozen? ⟨g8 + 1,0,none⟩ = false /\ w528.frozen? ⟨g8 + 1,1,none⟩ = false /\ w528.frozen? ⟨g8 + 1,2,none⟩ = false /\ w528.frozen? ⟨g8 + 1,3,none⟩ = false:=⟨qa.out.frozen 0,qa.out.frozen 1,qa.out.frozen 2,qa.out.frozen 3⟩;obtain ⟨W5,hW5,q5,hK5,s5⟩:=Zaf rn rA rk rc rm rB rj rd qa.out;refine Zp (i:=13) rfl (by kernel_rfl) (by kernel_rfl) (fun K hK=>?_);go_simp;(try rw [hW5]);refine hK.out _ _ ?_;clear hK K
     try simp only [Act.put,putL_a,putL_z,putL_s,putG_a,putG_s,putG_z]
     have rf5:=Zb (rf.out.keptN hK5 qa.out (Zao _ _ _ _ _ _ _ _));have hK10 : Hid (Kept (fun k=>k = g8 + 1) V9 W5):=Zb (Kept.trans hK9.out hK5);have q5':=Zb q5;clear fz0 fz1 fz2 fz3 hW5 hK5 s5 q5 rf pf hA qa hFb q523 sl sz;refine Zl (by kernel_rfl) ?_ _;refine OnlyNormal.normal ?_;clear m1 l0' l1' l2' l3' cc508 cc509 cc510 cc511 cc512 cc513 cc514 cc515 cc516;go_wp2_with fail
     go_roundg (i - (k + 1))
     case measure=>omega
     case rel=>exact ⟨k + 1,_,_,_,_,_,_,_,_,by omega,by go_num,q5',rf5,hK10⟩
    | zero =>
     obtain rfl : k = i:=by omega
     have t2 : decide ((k : Int) < (k : Int)) = false:=by simp
     have hzA : Zk (brd AQ X n) k k n = zV AQ n X k:=rfl;rw [hzA] at hA;obtain ⟨Y1,hY1,qz,hbY⟩:=Za6 (w:=wk) 91 #[.bool an,.slice aA ak ac,.bool am,.slice aB aj ad];obtain ⟨gz,hgz⟩ : ∃ g,wk.heap.size = g:=⟨_,rfl⟩;rw [hgz] at qz;have hBY : Below wi.heap.size wi Y1:=hBk.out.trans (hbY.mono hBk.out.size);have hOY:=hO.out.kept hBY;have hAY:=hA.out.below hbY;have hsz:=(hK.out.below hBY).size
     have hll : (zL AQ n X k).length + 1 <= 1000:=by rw [Zpl];omega
     obtain ⟨a0,a1,a2,a3,-⟩:=qa.out.four;replace hzA:=Zb hzA;go_wp2_with ((try rw [hY1]);(try rw [hgz]);at_builtin;refine Zac _ rfl (.tmp 43) (.tmp 45) 84 rfl V5.heap.size 91 iN Tryz.underlying84 hi hz0 hz1 hz2 _ _ rfl hOY _ (some ⟨gz,0,none⟩) 1 1 [⟨an,aA,ak,ac,am,aB,aj,ad,zV AQ n X k⟩] rfl (Zad _ qz) rfl (by intro e he;rw [List.mem_singleton] at he;subst he;exact hAY) hll hsz ?_;intro v7 w7 hO7 hg7 hk7);simp only [List.map_cons,List.map_nil] at hO7;rw [<- zL_succ] at hO7;obtain ⟨Ay7,cy7,e7,hF7⟩:=hO7.fl;rw [Zpl] at e7 hF7;subst e7;have hcy7:=hF7.cap;unfold maxLen at hcy7
     have hyo : ∀ q,(Value.slice Ay k cy).ownBlock = some q -> V5.heap.size <= q /\ q < wi.heap.size:=fun q e=>⟨hO.out.row_ge q e,hO.out.blt q e⟩
     have hK7 : Kept (fun q=>q = g3) V5 w7:=Kept.grownC (hK.out.below hBY) hg7 (fun q e=>(hyo q e).1);have hBr7 : Hid (Below w1.heap.size w1 w7):=Zb (hbG.out.trans (hK7.to_below (fun q e=>by rw [e];exact Nat.le_of_eq hg4.out) hbG.out.size))
     have qs7 : Hid (Blk w7 g3 91 #[.bool sn,.slice sA sk sc,.bool sm,.slice sB sj sd]):=Zb ((hg7.block g3 (by have:=hBY.size;omega) (fun e=>by
      have h9:=(hyo g3 (by first | exact e | exact e.symm)).1
      omega)).trans (Zc hBY qs.out))
     have qa7 : Hid (Blk w7 (g8 + 1) 91 #[.bool an,.slice aA ak ac,.bool am,.slice aB aj ad]):=Zb ((hg7.block (g8 + 1) (by have:=hbY.size;have:=qa.out.lt;omega) (fun e=>by
      have h9:=(hyo (g8 + 1) (by first | exact e | exact e.symm)).2
      omega)).trans (Zc hbY qa.out))
     have hs7 : Hid (Fr w7 sn sA sk sc sm sB sj sd (Zar k (fun s=>zV AQ n X s * zV AQ n X s / dQ AQ s))):=Zb ((hs.out.below hBY).of_keep hk7);have hA7 : Hid (Fr w7 an aA ak ac am aB aj ad (zV AQ n X k)):=Zb (hAY.of_keep hk7);obtain ⟨gd,od,dn,dA,dk,dc,dm,dB,dj,dd,eA3,⟨d0,d1,d2,d3⟩,hd⟩:=(hD1.out.below hBr7.out).at_ hin;subst eA3;rw [Zln hin] at hd;have hd7:=Zb hd;have qf7:=Zb (Zc hBr7.out qf1.out);have hO8:=Zb hO7;have hK8:=Zb hK7;have hgsz:=Zb hsz
     have sw7 : g3 < V5.heap.size:=by omega
     replace hF7:=Zb hF7;clear hd hO7 hK7 hY1 hgz hbY hBY hOY hAY hsz hk7 hg7 hyo a0 a1 a2 a3 qz;have hBz : Hid (Below w7.heap.size w7 w7):=Zb (Below.refl _ _);go_wp2_with fail;have cc801 : w7.cell? ⟨g3,0,none⟩ = some (.bool sn):=qs7.out.cell 0;have cc802 : w7.cell? ⟨g3,1,none⟩ = some (.slice sA sk sc):=qs7.out.cell 1;have cc803 : w7.cell? ⟨g3,2,none⟩ = some (.bool sm):=qs7.out.cell 2;have cc804 : w7.cell? ⟨g3,3,none⟩ = some (.slice sB sj sd):=qs7.out.cell 3;have cc805 : w7.cell? ⟨g8 + 1,0,none⟩ = some (.bool an):=qa7.out.cell 0;have cc806 : w7.cell? ⟨g8 + 1,1,none⟩ = some (.slice aA ak ac):=qa7.out.cell 1;have cc807 : w7.cell? ⟨g8 + 1,2,none⟩ = some (.bool am):=qa7.out.cell 2;have cc808 : w7.cell? ⟨g8 + 1,3,none⟩ = some (.slice aB aj ad):=qa7.out.cell 3;have cc809 : w7.cell? ⟨gf,1,none⟩ = some (.slice (some ⟨gd,od,none⟩) n c2):=qf7.out.cell 1;have hr810 : Below w7.heap.size w7 w7.drew:=Zj (Below.refl _ _) 1;replace hBz:=Zb (hBz.out.trans (hr810.mono hBz.out.size));replace qs7:=Zb (Zc hr810 qs7.out);replace qa7:=Zb (Zc hr810 qa7.out);replace hs7:=Zb (hs7.out.below hr810);replace hA7:=Zb (hA7.out.below hr810);replace hd7:=Zb (hd7.out.below hr810);replace qf7:=Zb (Zc hr810 qf7.out);replace hK8:=Zb (hK8.out.below hr810);have hB811:=Zb (hBr7.out.trans (hr810.mono hBr7.out.size));clear hBr7;replace cc801:=Za hr810 cc801;replace cc802:=Za hr810 cc802;replace cc803:=Za hr810 cc803;replace cc804:=Za hr810 cc804;replace cc805:=Za hr810 cc805;replace cc806:=Za hr810 cc806
     replace cc807:=Za hr810 cc807;replace cc808:=Za hr810 cc808;replace cc809:=Za hr810 cc809;replace d0:=Za hr810 d0;replace d1:=Za hr810 d1;replace d2:=Za hr810 d2;replace d3:=Za hr810 d3;clear hr810;refine Z4 [13] (fun wx=>(wx.cell? ⟨g3,0,none⟩ = some (.bool sn)) /\ (wx.cell? ⟨g3,1,none⟩ = some (.slice sA sk sc)) /\ (wx.cell? ⟨g3,2,none⟩ = some (.bool sm)) /\ (wx.cell? ⟨g3,3,none⟩ = some (.slice sB sj sd)) /\ (wx.cell? ⟨g8 + 1,0,none⟩ = some (.bool an)) /\ (wx.cell? ⟨g8 + 1,1,none⟩ = some (.slice aA ak ac)) /\ (wx.cell? ⟨g8 + 1,2,none⟩ = some (.bool am)) /\ (wx.cell? ⟨g8 + 1,3,none⟩ = some (.slice aB aj ad)) /\ (wx.cell? ⟨gf,1,none⟩ = some (.slice (some ⟨gd,od,none⟩) n c2)) /\ (wx.cell? ⟨gd,od + k * 4,none⟩ = some (.bool dn)) /\ (wx.cell? ⟨gd,od + k * 4 + 1,none⟩ = some (.slice dA dk dc)) /\ (wx.cell? ⟨gd,od + k * 4 + 2,none⟩ = some (.bool dm)) /\ (wx.cell? ⟨gd,od + k * 4 + 3,none⟩ = some (.slice dB dj dd))) hmx ⟨cc801,cc802,cc803,cc804,cc805,cc806,cc807,cc808,cc809,d0,d1,d2,d3⟩ (fun _=>?_);refine Zd (i:=0) (v:=?vt11) rfl (by kernel_rfl) (by kernel_rfl) (by kernel_rfl) (by kernel_rfl) (by kernel_rfl) (Or.inl ⟨by kernel_rfl,?hyt11⟩) ⟨cc801,cc802,cc803,cc804,cc805,cc806,cc807,cc808,cc809,d0,d1,d2,d3⟩ ?rt11
     case hyt11=>(intro W2 hSw;(try dsimp only at hSw);go_simp;try with_reducible rfl)
     try simp only [Act.put,putL_a,putL_z,putL_s,putG_a,putG_s,putG_z]
     refine Zd (i:=1) (v:=?vt12) rfl (by kernel_rfl) (by kernel_rfl) (by kernel_rfl) (by kernel_rfl) (by kernel_rfl) (Or.inl ⟨by kernel_rfl,?hyt12⟩) ⟨cc801,cc802,cc803,cc804,cc805,cc806,cc807,cc808,cc809,d0,d1,d2,d3⟩ ?rt12
     case hyt12=>(intro W2 hSw;(try dsimp only at hSw);go_simp;try with_reducible rfl)
     try simp only [Act.put,putL_a,putL_z,putL_s,putG_a,putG_s,putG_z]
     refine Zd (i:=2) (v:=?vt13) rfl (by kernel_rfl) (by kernel_rfl) (by kernel_rfl) (by kernel_rfl) (by kernel_rfl) (Or.inl ⟨by kernel_rfl,?hyt13⟩) ⟨cc801,cc802,cc803,cc804,cc805,cc806,cc807,cc808,cc809,d0,d1,d2,d3⟩ ?rt13
     case hyt13=>(intro W2 hSw;(try dsimp only at hSw);go_simp;try with_reducible rfl)
     try simp only [Act.put,putL_a,putL_z,putL_s,putG_a,putG_s,putG_z]
     refine Zd (i:=5) (v:=?vt14) rfl (by kernel_rfl) (by kernel_rfl) (by kernel_rfl) (by kernel_rfl) (by kernel_rfl) (Or.inl ⟨by kernel_rfl,?hyt14⟩) ⟨cc801,cc802,cc803,cc804,cc805,cc806,cc807,cc808,cc809,d0,d1,d2,d3⟩ ?rt14
     case hyt14=>(intro W2 hSw;(try dsimp only at hSw);go_simp;try with_reducible rfl)
     try simp only [Act.put,putL_a,putL_z,putL_s,putG_a,putG_s,putG_z]
     refine Zd (i:=6) (v:=?vt15) rfl (by kernel_rfl) (by kernel_rfl) (by kernel_rfl) (by kernel_rfl) (by kernel_rfl) (Or.inl ⟨by kernel_rfl,?hyt15⟩) ⟨cc801,cc802,cc803,cc804,cc805,cc806,cc807,cc808,cc809,d0,d1,d2,d3⟩ ?rt15
     case hyt15=>(intro W2 hSw;(try dsimp only at hSw);go_simp;try with_reducible rfl)
     try simp only [Act.put,putL_a,putL_z,putL_s,putG_a,putG_s,putG_z]
     refine Zd (i:=7) (v:=?vt16) rfl (by kernel_rfl) (by kernel_rfl) (by kernel_rfl) (by kernel_rfl) (by kernel_rfl) (Or.inl ⟨by kernel_rfl,?hyt16⟩) ⟨cc801,cc802,cc803,cc804,cc805,cc806,cc807,cc808,cc809,d0,d1,d2,d3⟩ ?rt16
     case hyt16=>(intro W2 hSw;(try dsimp only at hSw);go_simp;try with_reducible rfl)
     try simp only [Act.put,putL_a,putL_z,putL_s,putG_a,putG_s,putG_z]
     refine Zd (i:=8) (v:=?vt17) rfl (by kernel_rfl) (by kernel_rfl) (by kernel_rfl) (by kernel_rfl) (by kernel_rfl) (Or.inl ⟨by kernel_rfl,?hyt17⟩) ⟨cc801,cc802,cc803,cc804,cc805,cc806,cc807,cc808,cc809,d0,d1,d2,d3⟩ ?rt17
     case hyt17=>(intro W2 hSw;(try dsimp only at hSw);go_simp;try with_reducible rfl)
     try simp only [Act.put,putL_a,putL_z,putL_s,putG_a,putG_s,putG_z]
     refine Zd (i:=9) (v:=?vt18) rfl (by kernel_rfl) (by kernel_rfl) (by kernel_rfl) (by kernel_rfl) (by kernel_rfl) (Or.inl ⟨by kernel_rfl,?hyt18⟩) ⟨cc801,cc802,cc803,cc804,cc805,cc806,cc807,cc808,cc809,d0,d1,d2,d3⟩ ?rt18
     case hyt18=>(intro W2 hSw;(try dsimp only at hSw);go_simp;try with_reducible rfl)
     try simp only [Act.put,putL_a,putL_z,putL_s,putG_a,putG_s,putG_z]
     obtain ⟨g812,hg813⟩ : ∃ g,w7.drew.heap.size = g:=⟨_,rfl⟩;obtain ⟨V814,hV815,q816,hb817⟩:=Za6 (w:=w7.drew) 91 #[.bool an,.slice aA ak ac,.bool am,.slice aB aj ad];rw [hg813] at q816;refine Ze (i:=3) rfl (by kernel_rfl) (fun K hK=>?_);go_simp;(try rw [hg813]);(try rw [hV815]);clear hV815;replace hBz:=Zb (hBz.out.trans (hb817.mono hBz.out.size));replace qs7:=Zb (Zc hb817 qs7.out);replace qa7:=Zb (Zc hb817 qa7.out);replace hs7:=Zb (hs7.out.below hb817);replace hA7:=Zb (hA7.out.below hb817);replace hd7:=Zb (hd7.out.below hb817);replace qf7:=Zb (Zc hb817 qf7.out);replace hK8:=Zb (hK8.out.below hb817);have hB818:=Zb (hB811.out.trans (hb817.mono hB811.out.size));clear hB811;replace cc801:=Za hb817 cc801;replace cc802:=Za hb817 cc802;replace cc803:=Za hb817 cc803;replace cc804:=Za hb817 cc804;replace cc805:=Za hb817 cc805;replace cc806:=Za hb817 cc806;replace cc807:=Za hb817 cc807;replace cc808:=Za hb817 cc808;replace cc809:=Za hb817 cc809;replace d0:=Za hb817 d0;replace d1:=Za hb817 d1;replace d2:=Za hb817 d2;replace d3:=Za hb817 d3;clear hb817;replace q816:=Zb q816;replace hg813:=Zb hg813;refine hK.out _ _ (fun _=>⟨cc801,cc802,cc803,cc804,cc805,cc806,cc807,cc808,cc809,d0,d1,d2,d3⟩) ?_;clear hK K
     try simp only [Act.put,putL_a,putL_z,putL_s,putG_a,putG_s,putG_z]
     have hFb:=Zb (FL.sing1 q816.out hA7.out);have szz : Sm (zV AQ n X k):=hS.out.a k k (Nat.le_refl _) hin;have hd0 : dQ AQ k ≠ 0:=hp.out.ne hin;refine Ze (i:=4) rfl (by kernel_rfl) (fun K hK=>?_);go_simp;refine (Zfu an aA ak ac am aB aj ad _ (some ⟨g812,0,none⟩) 1 1 [zV AQ n X k] V814 hA7.out hFb.out (by decide) (Zor szz) (Zqs szz)).mono ?_;rintro e w819 ⟨hbP,pn,pA,pk,pc,pm,pB,pj,pd,rfl,pf⟩;replace hBz:=Zb (hBz.out.trans (hbP.mono hBz.out.size));replace qs7:=Zb (Zc hbP qs7.out);replace qa7:=Zb (Zc hbP qa7.out);replace hs7:=Zb (hs7.out.below hbP);replace hA7:=Zb (hA7.out.below hbP);replace hd7:=Zb (hd7.out.below hbP);replace qf7:=Zb (Zc hbP qf7.out);replace hK8:=Zb (hK8.out.below hbP);replace q816:=Zb (Zc hbP q816.out);replace hFb:=Zb (hFb.out.below hbP);have hB820:=Zb (hB818.out.trans (hbP.mono hB818.out.size));clear hB818;replace cc801:=Za hbP cc801;replace cc802:=Za hbP cc802;replace cc803:=Za hbP cc803;replace cc804:=Za hbP cc804;replace cc805:=Za hbP cc805;replace cc806:=Za hbP cc806;replace cc807:=Za hbP cc807;replace cc808:=Za hbP cc808;replace cc809:=Za hbP cc809;replace d0:=Za hbP d0;replace d1:=Za hbP d1;replace d2:=Za hbP d2;replace d3:=Za hbP d3;clear hbP;rw [Zt7] at pf;replace pf:=Zb pf;refine hK.out _ _ (fun _=>⟨cc801,cc802,cc803,cc804,cc805,cc806,cc807,cc808,cc809,d0,d1,d2,d3⟩) ?_;clear hK K
     try simp only [Act.put,putL_a,putL_z,putL_s,putG_a,putG_s,putG_z]
     refine Ze (i:=10) rfl (by kernel_rfl) (fun K hK=>?_);go_simp;refine (Zm3 pn pm dn dm pA pB dA dB pk pc pj pd dk dc dj dd _ _ w819 pf.out hd7.out (hS.out.zz k hin) (hS.out.d k hin) hd0).mono ?_;rintro e w821 ⟨hbQ,qn,qA,qk,qc,qm,qB,qj,qd,rfl,qf⟩;replace hBz:=Zb (hBz.out.trans (hbQ.mono hBz.out.size));replace qs7:=Zb (Zc hbQ qs7.out);replace qa7:=Zb (Zc hbQ qa7.out);replace hs7:=Zb (hs7.out.below hbQ);replace hA7:=Zb (hA7.out.below hbQ);replace hd7:=Zb (hd7.out.below hbQ);replace qf7:=Zb (Zc hbQ qf7.out);replace hK8:=Zb (hK8.out.below hbQ);replace q816:=Zb (Zc hbQ q816.out);replace hFb:=Zb (hFb.out.below hbQ);replace pf:=Zb (pf.out.below hbQ);have hB822:=Zb (hB820.out.trans (hbQ.mono hB820.out.size));clear hB820;replace cc801:=Za hbQ cc801;replace cc802:=Za hbQ cc802;replace cc803:=Za hbQ cc803;replace cc804:=Za hbQ cc804;replace cc805:=Za hbQ cc805;replace cc806:=Za hbQ cc806;replace cc807:=Za hbQ cc807;replace cc808:=Za hbQ cc808;replace cc809:=Za hbQ cc809;replace d0:=Za hbQ d0;replace d1:=Za hbQ d1;replace d2:=Za hbQ d2;replace d3:=Za hbQ d3;clear hbQ;replace qf:=Zb qf;refine hK.out _ _ (fun _=>⟨cc801,cc802,cc803,cc804,cc805,cc806,cc807,cc808,cc809,d0,d1,d2,d3⟩) ?_;clear hK K
     try simp only [Act.put,putL_a,putL_z,putL_s,putG_a,putG_s,putG_z]
     obtain ⟨g823,hg824⟩ : ∃ g,w821.heap.size = g:=⟨_,rfl⟩;obtain ⟨V825,hV826,q827,hb828⟩:=Za6 (w:=w821) 91 #[.bool sn,.slice sA sk sc,.bool sm,.slice sB sj sd,.bool qn,.slice qA qk qc,.bool qm,.slice qB qj qd];rw [hg824] at q827;refine Ze (i:=11) rfl (by kernel_rfl) (fun K hK=>?_);go_simp;(try rw [hg824]);(try rw [hV826]);clear hV826;replace hBz:=Zb (hBz.out.trans (hb828.mono hBz.out.size));replace qs7:=Zb (Zc hb828 qs7.out);replace qa7:=Zb (Zc hb828 qa7.out);replace hs7:=Zb (hs7.out.below hb828);replace hA7:=Zb (hA7.out.below hb828);replace hd7:=Zb (hd7.out.below hb828);replace qf7:=Zb (Zc hb828 qf7.out);replace hK8:=Zb (hK8.out.below hb828);replace q816:=Zb (Zc hb828 q816.out);replace hFb:=Zb (hFb.out.below hb828);replace pf:=Zb (pf.out.below hb828);replace qf:=Zb (qf.out.below hb828);have hB829:=Zb (hB822.out.trans (hb828.mono hB822.out.size));clear hB822;replace cc801:=Za hb828 cc801;replace cc802:=Za hb828 cc802;replace cc803:=Za hb828 cc803;replace cc804:=Za hb828 cc804;replace cc805:=Za hb828 cc805;replace cc806:=Za hb828 cc806;replace cc807:=Za hb828 cc807;replace cc808:=Za hb828 cc808;replace cc809:=Za hb828 cc809;replace d0:=Za hb828 d0;replace d1:=Za hb828 d1;replace d2:=Za hb828 d2;replace d3:=Za hb828 d3;clear hb828;replace q827:=Zb q827;replace hg824:=Zb hg824;refine hK.out _ _ (fun _=>⟨cc801,cc802,cc803,cc804,cc805,cc806,cc807,cc808,cc809,d0,d1,d2,d3⟩) ?_;clear hK K
     try simp only [Act.put,putL_a,putL_z,putL_s,putG_a,putG_s,putG_z]
     have hFc:=Zb (FL.pair2 q827.out hs7.out qf.out);refine Ze (i:=12) rfl (by kernel_rfl) (fun K hK=>?_);go_simp;refine (csum_ok (some ⟨g823,0,none⟩) 2 2 [_,_] V825 hFc.out (by decide) (sm_sum2 (hS.out.s k (by omega))) (sm_two (hS.out.s k (by omega)) (hS.out.q k hin))).mono ?_;rintro e w830 ⟨hbR,rn,rA,rk,rc,rm,rB,rj,rd,rfl,rf⟩;replace hBz:=Zb (hBz.out.trans (hbR.mono hBz.out.size));replace qs7:=Zb (Zc hbR qs7.out);replace qa7:=Zb (Zc hbR qa7.out);replace hs7:=Zb (hs7.out.below hbR);replace hA7:=Zb (hA7.out.below hbR);replace hd7:=Zb (hd7.out.below hbR);replace qf7:=Zb (Zc hbR qf7.out);replace hK8:=Zb (hK8.out.below hbR);replace q816:=Zb (Zc hbR q816.out);replace hFb:=Zb (hFb.out.below hbR);replace pf:=Zb (pf.out.below hbR);replace qf:=Zb (qf.out.below hbR);replace q827:=Zb (Zc hbR q827.out);replace hFc:=Zb (hFc.out.below hbR);have hB831:=Zb (hB829.out.trans (hbR.mono hB829.out.size));clear hB829;replace cc801:=Za hbR cc801;replace cc802:=Za hbR cc802;replace cc803:=Za hbR cc803;replace cc804:=Za hbR cc804;replace cc805:=Za hbR cc805;replace cc806:=Za hbR cc806;replace cc807:=Za hbR cc807;replace cc808:=Za hbR cc808;replace cc809:=Za hbR cc809;replace d0:=Za hbR d0;replace d1:=Za hbR d1;replace d2:=Za hbR d2;replace d3:=Za hbR d3;clear hbR;rw [sumF2] at rf;replace rf:=Zb rf;refine hK.out _ _ (fun _=>⟨cc801,cc802,cc803,cc804,cc805,cc806,cc807,cc808,cc809,d0,d1,d2,d3⟩) ?_;clear hK K
     try simp only [Act.put,putL_a,putL_z,putL_s,putG_a,putG_s,putG_z]
     obtain ⟨fz0,fz1,fz2,fz3⟩ : w830.frozen? ⟨g3,0,none⟩ = false /\ w830.frozen? ⟨g3,1,none⟩ = false /\ w830.frozen? ⟨g3,2,none⟩ = false /\ w830.frozen? ⟨g3,3,none⟩ = false:=⟨qs7.out.frozen 0,qs7.out.frozen 1,qs7.out.frozen 2,qs7.out.frozen 3⟩;obtain ⟨W5,hW5,q5,hK5,s5⟩:=Zaf rn rA rk rc rm rB rj rd qs7.out;refine Zp (i:=13) rfl (by kernel_rfl) (by kernel_rfl) (fun K hK=>?_);go_simp;(try rw [hW5]);refine hK.out _ _ ?_;clear hK K
     try simp only [Act.put,putL_a,putL_z,putL_s,putG_a,putG_s,putG_z]
     have rf5 : Hid (Fr W5 rn rA rk rc rm rB rj rd (Zar (k + 1) (fun s=>zV AQ n X s * zV AQ n X s / dQ AQ s))):=Zb (rf.out.keptN hK5 qs7.out (Zao _ _ _ _ _ _ _ _));have hK10 : Hid (Kept (fun q=>q = g3) V5 W5):=Zb (Kept.trans hK8.out hK5);have hO9:=hO8.out.kept hBz.out;have hO10 : Hid (OwnF 91 W5 V5.heap.size (.slice Ay7 (k + 1) cy7) (zL AQ n X (k + 1))):=Zb (hO9.keptG qs7.out (Zao _ _ _ _ _ _ _ _) (fun e=>by have:=hO9.row_ge g3 e;omega) hK5);have q5':=Zb q5;clear fz0 fz1 fz2 fz3 hW5 hK5 s5 q5 rf pf qf hs7 hA7 qs7 qa7 hFb hFc q816 q827 szz hd0 hO9;refine Zl (by kernel_rfl) ?_ _;refine OnlyNormal.normal ?_;clear cc801 cc802 cc803 cc804 cc805 cc806 cc807 cc808 cc809 d0 d1 d2 d3;go_wp2_with fail
     go_roundg (n - (k + 1))
     case measure=>omega
     case rel=>exact ⟨k + 1,_,_,_,_,_,_,_,_,by omega,by go_num,hO10,q5',rf5,hK10⟩
def Zfc (rs : List RX) (es : List FX) : Int:=if Zax rs ≠ 0 then Zax rs else if es.length = rs.length /\ Zb1 es = true then 0 else 8
def Zob (es : List FX) (i : Nat) : Rat:=(es.map FX.q)[i]?.getD 0
def Zlg (rs : List RX) (es : List FX) : Rat:=bil (Zi (qM rs)) rs.length (Zob es) (Zob es)
def DistPost (rs : List RX) (es : List FX) (w : World) (e : Ending) (w' : World) : Prop:=
 Below w.heap.size w w' /\ ((Zfc rs es = 0 /\ ∃ na A n c nb B m d,e = .returned (.tuple #[.agg #[.bool na,.slice A n c,.bool nb,.slice B m d],.int .i64 0]) /\ Fr w' na A n c nb B m d (Zlg rs es)) \/
  (Zfc rs es ≠ 0 /\ e = .returned (.tuple #[.agg #[.bool false,.slice none 0 0,.bool false,.slice none 0 0],.int .i64 (Zfc rs es)])))
theorem DistPost.fall {rs : List RX} {es : List FX} {w w' : World} {E : Int} (hb : Below w.heap.size w w') (h : Zfc rs es = E) (h0 : E ≠ 0) : DistPost rs es w (.returned (.tuple #[.agg #[.bool false,.slice none 0 0,.bool false,.slice none 0 0],.int .i64 E])) w':=by
 subst h;exact ⟨hb,.inr ⟨h0,rfl⟩⟩
section
variable {rs : List RX} {es : List FX} {E : Int}
theorem Zrh (h : Zax rs = E) (h0 : E ≠ 0) : Zfc rs es = E:=by subst h;exact if_pos h0
theorem Zky (h : Zax rs = 0) (hb : ¬ (es.length = rs.length /\ Zb1 es = true)) : Zfc rs es = 8:=by
 unfold Zfc;rw [if_neg (by simp [h])];exact if_neg hb
theorem Zng (h : Zax rs = 0) (hb : es.length = rs.length /\ Zb1 es = true) : Zfc rs es = 0:=by
 unfold Zfc;rw [if_neg (by simp [h])];exact if_pos hb
end
theorem Zp2 (na : Bool) (A : Option Addr) (n c : Nat) (nb : Bool) (B : Option Addr) (m d : Nat) (w : World) : (Instr.field 91 (.agg #[.bool na,.slice A n c,.bool nb,.slice B m d]) 0).run Tryz.prog w = .ok (.agg #[.bool na,.slice A n c,.bool nb,.slice B m d]) w:=by kernel_rfl
theorem Zf2 (A V : Option Addr) (n c nv cv : Nat) (rs : List RX) (es : List FX) (w : World) (h : MXL w A n c rs) (hF : FacC rs) (hv : FXL w V nv cv es) (hS : Zfc rs es = 0 -> Zmz (Zi (qM rs)) rs.length (Zob es)) :
    Calls Tryz.prog 10 #[.slice A n c,.slice V nv cv] w (DistPost rs es w):=by
 have hnl:=Zb h.1;have hvl:=Zb hv.1;have hnc:=h.2.1;have hcm:=h.2.2.1;have hnc2:=hv.2.1;have hcm2:=hv.2.2.1;unfold maxLen at hcm hcm2;obtain ⟨W0,hW0,hB0,⟨q0,q1⟩,s0⟩:=Zd4 w 29 #[.bool false,.slice none 0 0,.bool false,.slice none 0 0] 30 #[.int .i64 0];have hC:=Zb (Zkz A n c rs W0 (h.below hB0) hF);have hH:=Zb (h.below hB0);have hVH:=Zb (hv.below hB0);replace hS:=Zb hS;replace q0:=Zb q0;replace q1:=Zb q1;replace hB0:=Zb hB0;clear h hv hF;replace s0:=Zb s0
 go_enter_defers Tryz.func10,Tryz.ntmps10
 go_wp2_with fail;(try rw [hW0]);clear hW0;refine hC.out.mono ?_;rintro e w1 ⟨hb1,⟨h0,v1,v2,L0,rfl,hFM⟩ | ⟨h0,rfl⟩⟩
 case inr =>
  have hB1:=hB0.out.trans (hb1.mono hB0.out.size);have k0:=Zc hb1 q0.out;have k1:=Zc hb1 q1.out;obtain ⟨E,hE⟩ : ∃ E,Zax rs = E:=⟨_,rfl⟩;rw [hE] at h0 ⊢;have hE0:=Zb h0;have hPE:=Zrh (es:=es) hE h0;replace hE:=Zb hE;go_wp2_with fail;refine leaves_cons (f:=41) (args:=#[.pointer (some ⟨w.heap.size + 1,0,none⟩)]) (by simp) (by simp [go_sem]) ?_;have e0:=(k1).cell 0
  simp at e0
  refine (Zdy ⟨w.heap.size + 1,0,none⟩ E 0 _ e0 ((k1).frozen 0)).mono ?_;rintro e u' w'' ⟨rfl,rfl,hw⟩;obtain ⟨V,hV,hBV,-,-,hk,sV⟩:=Zx 133 #[.int .i64 E] (hB1) ((hB1).size);obtain ⟨U,hU,hBU,q3,-,kq,-⟩:=Zaz E hBV (Nat.le_succ _) (hk _ _ _ (k1));rw [hV,hU] at hw;subst hw;have r4:=q3.cell 0
  simp at r4
  obtain ⟨d0,d1,d2,d3,-⟩:=(kq _ _ _ (by omega) (hk _ _ _ (k0))).four;exact ⟨.tuple #[.agg #[.bool false,.slice none 0 0,.bool false,.slice none 0 0],.int .i64 E],by simp [results,Tryz.results10,go_sem,r4,d0,d1,d2,d3],DistPost.fall hBU hPE (by first | decide | assumption | exact hE0.out)⟩
 obtain ⟨A1,c1,e1,hM1⟩:=hFM.1.mflA;obtain ⟨A2,c2,e2,hD1⟩:=hFM.2.1.fl;rw [Zbw] at e1 hM1;rw [Zc3] at e2 hD1;rw [hnl.out] at e1 hM1 e2 hD1;subst e1;subst e2;have hcap1:=hM1.2.1;have hcap1':=hM1.2.2.1;have hcap2:=hD1.cap;unfold maxLen at hcap1' hcap2;obtain ⟨hcV,hcS,hcP⟩:=Zhi h0
 have hn6 : n <= 6:=by rw [<- hnl.out];exact hcV.facts.2.1
 rw [hnl.out] at hcP;have hp:=Zb hcP;replace hM1:=Zb hM1;replace hD1:=Zb hD1;replace h0:=Zb h0;have hB1:=Zb (hB0.out.trans (hb1.mono hB0.out.size));replace q0:=Zb (Zc hb1 q0.out);replace q1:=Zb (Zc hb1 q1.out);replace hVH:=Zb (hVH.out.below hb1);clear hFM hcV hcS hcP hC hH hB0 hb1 L0;obtain ⟨g1,hg2⟩ : ∃ g,w1.heap.size = g:=⟨_,rfl⟩;obtain ⟨V3,hV4,q5,hb6⟩:=Za6 (w:=w1) 86 #[.slice A1 n c1,.slice A2 n c2];rw [hg2] at q5;replace hM1:=Zb (hM1.out.below hb6);replace hD1:=Zb (hD1.out.below hb6);replace q0:=Zb (Zc hb6 q0.out);replace q1:=Zb (Zc hb6 q1.out);replace hVH:=Zb (hVH.out.below hb6);have hB7:=Zb (hB1.out.trans (hb6.mono hB1.out.size));clear hB1;clear hb6;replace q5:=Zb q5
 by_cases hnv : nv = n
 case neg =>
  have t1 : ((nv : Int) == (n : Int)) = false:=by simp;omega
  have t1' : decide ((nv : Int) = (n : Int)) = false:=decide_eq_false (by omega);have t1'' : decide (nv = n) = false:=decide_eq_false hnv;have hPE:=Zb (Zky (es:=es) h0.out (fun hh=>hnv (by rw [<- hvl.out,<- hnl.out];exact hh.1)));replace hnv:=Zb hnv;go_wp2_with fail;(try rw [hg2]);(try rw [hV4]);clear hV4;replace hg2:=Zb hg2;refine (Zbp 8 V3).mono ?_;rintro e w6 ⟨rfl,rfl⟩;go_wp2_with fail;refine leaves_cons (f:=41) (args:=#[.pointer (some ⟨w.heap.size + 1,0,none⟩)]) (by simp) (by simp [go_sem]) ?_;have e0:=(q1.out).cell 0
  simp at e0
  refine (Zdy ⟨w.heap.size + 1,0,none⟩ 8 0 _ e0 ((q1.out).frozen 0)).mono ?_;rintro e u' w'' ⟨rfl,rfl,hw⟩;obtain ⟨V,hV,hBV,-,-,hk,sV⟩:=Zx 133 #[.int .i64 8] (hB7.out) ((hB7.out).size);obtain ⟨U,hU,hBU,q3,-,kq,-⟩:=Zaz 8 hBV (Nat.le_succ _) (hk _ _ _ (q1.out));rw [hV,hU] at hw;subst hw;have r4:=q3.cell 0
  simp at r4
  obtain ⟨d0,d1,d2,d3,-⟩:=(kq _ _ _ (by omega) (hk _ _ _ (q0.out))).four;exact ⟨.tuple #[.agg #[.bool false,.slice none 0 0,.bool false,.slice none 0 0],.int .i64 8],by simp [results,Tryz.results10,go_sem,r4,d0,d1,d2,d3],DistPost.fall hBU hPE.out (by first | decide | assumption | exact hE0.out)⟩
 subst hnv
 have t1 : ((nv : Int) == (nv : Int)) = true:=by simp
 obtain ⟨b,hb⟩ : ∃ b,Zb1 es = b:=⟨_,rfl⟩;have hCv:=Zb (fun W1 (hx : FXL W1 V nv cv es)=>Zhz V nv cv es W1 hx b hb);replace hb:=Zb hb;go_wp2_with fail;(try rw [hg2]);(try rw [hV4]);clear hV4;replace hg2:=Zb hg2;refine (hCv.out V3 hVH.out).mono ?_;rintro e w8 ⟨rfl,hb9⟩;replace hM1:=Zb (hM1.out.below hb9);replace hD1:=Zb (hD1.out.below hb9);replace q0:=Zb (Zc hb9 q0.out);replace q1:=Zb (Zc hb9 q1.out);replace hVH:=Zb (hVH.out.below hb9);replace q5:=Zb (Zc hb9 q5.out);have hB9:=Zb (hB7.out.trans (hb9.mono hB7.out.size));clear hB7;clear hb9
 cases b with
 | false =>
  have hPE:=Zb (Zky (es:=es) h0.out (fun hh=>by rw [hb.out] at hh;exact absurd hh.2 (by decide)));go_wp2_with fail;refine (Zbp 8 w8).mono ?_;rintro e w6 ⟨rfl,rfl⟩;go_wp2_with fail;refine leaves_cons (f:=41) (args:=#[.pointer (some ⟨w.heap.size + 1,0,none⟩)]) (by simp) (by simp [go_sem]) ?_;have e0:=(q1.out).cell 0
  simp at e0
  refine (Zdy ⟨w.heap.size + 1,0,none⟩ 8 0 _ e0 ((q1.out).frozen 0)).mono ?_;rintro e u' w'' ⟨rfl,rfl,hw⟩;obtain ⟨V,hV,hBV,-,-,hk,sV⟩:=Zx 133 #[.int .i64 8] (hB9.out) ((hB9.out).size);obtain ⟨U,hU,hBU,q3,-,kq,-⟩:=Zaz 8 hBV (Nat.le_succ _) (hk _ _ _ (q1.out));rw [hV,hU] at hw;subst hw;have r4:=q3.cell 0
  simp at r4
  obtain ⟨d0,d1,d2,d3,-⟩:=(kq _ _ _ (by omega) (hk _ _ _ (q0.out))).four;exact ⟨.tuple #[.agg #[.bool false,.slice none 0 0,.bool false,.slice none 0 0],.int .i64 8],by simp [results,Tryz.results10,go_sem,r4,d0,d1,d2,d3],DistPost.fall hBU hPE.out (by first | decide | assumption | exact hE0.out)⟩
 | true =>
  have hPE:=Zb (Zng (es:=es) h0.out ⟨by rw [hvl.out,hnl.out],hb.out⟩);have hSS:=Zb (hS.out hPE.out);have hFV:=Zb (hVH.out.fl (Zol hb.out));clear hS;clear hVH;go_wp2_with fail;refine (Zcs 8 w8).mono ?_;rintro e w6 ⟨rfl,rfl⟩;have ha0:=q5.out.cell 0;have ha1:=q5.out.cell 1
  simp at ha0 ha1
  have hSn : Hid (Zmz (Zi (qM rs)) nv (fun i : Nat=>(es.map FX.q)[i]?.getD 0)):=Zb (by have h9:=hSS.out;rw [hnl.out] at h9;exact h9);go_wp2_with fail;clear ha0 ha1;refine (Zto A1 A2 V nv c1 c2 cv (Zi (qM rs)) (es.map FX.q) w6 hn6 hM1.out hD1.out hFV.out hp.out hSn.out).mono ?_;rintro e w10 ⟨hbd,dn,dA,dk,dc,dm,dB,dj,dd,rfl,df⟩;replace hM1:=Zb (hM1.out.below hbd);replace hD1:=Zb (hD1.out.below hbd);replace q0:=Zb (Zc hbd q0.out);replace q1:=Zb (Zc hbd q1.out);replace q5:=Zb (Zc hbd q5.out);replace hFV:=Zb (hFV.out.below hbd);have hB11:=Zb (hB9.out.trans (hbd.mono hB9.out.size));clear hB9;clear hbd;replace df:=Zb df;obtain ⟨x0,x1,x2,x3,f0,f1,f2,f3⟩:=q0.out.four;obtain ⟨W5,hW5,hB5,q5,kW,kB,s5⟩:=Z6 dn dA dk dc dm dB dj dd hB11.out (Nat.le_refl _) q0.out;have q15:=kB _ _ _ (by omega) q1.out
  have df5 : Hid (Fr W5 dn dA dk dc dm dB dj dd (Zlg rs es)):=Zb (by
   have h9 : Fr W5 dn dA dk dc dm dB dj dd (bil (Zi (qM rs)) nv (Zob es) (Zob es)):=⟨kW _ _ _ _ _ df.out.1,kW _ _ _ _ _ df.out.2⟩;unfold Zlg
   rw [hnl.out];exact h9)
  have e0:=q15.cell 0;have z0:=q15.frozen 0
  simp at e0
  obtain ⟨U,hU,hBU,q3,kW2,kB2,-⟩:=Zaz 0 hB5 (Nat.le_succ _) q15;have r4:=q3.cell 0
  simp at r4
  obtain ⟨y0,y1,y2,y3,-⟩:=(kB2 _ _ _ (by omega) q5).four;have df6 : Hid (Fr U dn dA dk dc dm dB dj dd (Zlg rs es)):=Zb ⟨kW2 _ _ _ _ _ df5.out.1,kW2 _ _ _ _ _ df5.out.2⟩;clear kW kB s5 kW2 kB2 df df5 hFV hM1 hD1;have hfd:=Zp2 dn dA dk dc dm dB dj dd;go_wp2_with fail;(try rw [hW5]);(try rw [hU]);refine leaves_cons (f:=41) (args:=#[.pointer (some ⟨w.heap.size + 1,0,none⟩)]) (by simp) (by simp [go_sem]) ?_;refine (Zhu _ _).mono ?_;rintro e u' w'' ⟨rfl,rfl,rfl⟩;exact ⟨.tuple #[.agg #[.bool dn,.slice dA dk dc,.bool dm,.slice dB dj dd],.int .i64 0],by simp [results,Tryz.results10,go_sem,r4,y0,y1,y2,y3],hBU,.inl ⟨hPE.out,_,_,_,_,_,_,_,_,rfl,df6.out⟩⟩
def LeN (k : Nat) (q : Rat) : Prop:=q.num.natAbs <= pw k /\ q.den <= pw k
theorem LeN.div {a b : Rat} {i j : Nat} (h : LeN i a) (g : LeN j b) (h0 : b ≠ 0) : LeN (i + j) (a / b):=by
 rw [<- Zdw a b h0];have hd:=Zew a b h0;refine ⟨Nat.le_trans (Zgg _ _ hd) ?_,Nat.le_trans (Zf6 _ _ hd) ?_⟩
 ·rw [Int.natAbs_mul,Int.natAbs_natCast,Zd3];exact Nat.mul_le_mul h.1 g.2
 ·rw [Int.natAbs_mul,Int.natAbs_natCast,Zd3];exact Nat.mul_le_mul h.2 g.1
theorem LeN.half {a : Rat} {i : Nat} (h : LeN i a) (x : Int) (hx : x.natAbs <= 128) : LeN (i + 1) (a + Rat.divInt x 2):=by
 have hp : pw (i + 1) = 4294967296 * pw i:=by rw [Zak]
 have h2n : (Rat.divInt x 2).num.natAbs <= 128:=Nat.le_trans (Zgg x 2 (by decide)) hx;have h2d : (Rat.divInt x 2).den <= 2:=Zf6 x 2 (by decide);rw [<- Zqt];have hd : ((a.den : Int) * ((Rat.divInt x 2).den : Nat)) ≠ 0:=Int.ne_of_gt (Zba a _);obtain ⟨n2,hn2⟩ : ∃ z,(Rat.divInt x 2).num = z:=⟨_,rfl⟩;obtain ⟨d2,hd2⟩ : ∃ z,(Rat.divInt x 2).den = z:=⟨_,rfl⟩;rw [hn2] at h2n ⊢;rw [hd2] at h2d hd ⊢;obtain ⟨P,hP⟩ : ∃ P,pw i = P:=⟨_,rfl⟩;unfold LeN at h ⊢;rw [hp,hP];rw [hP] at h;have m1 : a.num.natAbs * d2 <= P * 2:=Nat.mul_le_mul h.1 h2d;have m2 : n2.natAbs * a.den <= 128 * P:=Nat.mul_le_mul h2n h.2;have m3 : a.den * d2 <= P * 2:=Nat.mul_le_mul h.2 h2d;refine ⟨Nat.le_trans (Zgg _ _ hd) ?_,Nat.le_trans (Zf6 _ _ hd) ?_⟩
 ·refine Nat.le_trans (Int.natAbs_add_le _ _) ?_
  rw [Int.natAbs_mul,Int.natAbs_mul,Int.natAbs_natCast,Int.natAbs_natCast];omega
 ·rw [Int.natAbs_mul,Int.natAbs_natCast,Int.natAbs_natCast]
  omega
def Zjn (A : Nat -> Nat -> Rat) (x : Nat -> Rat) (n : Nat) : List (List Rat):=(List.range (n + 1)).map fun i=>(List.range (n + 1)).map fun k=>brd A x n i k
section
variable {A : Nat -> Nat -> Rat} {x : Nat -> Rat} {n k : Nat}
theorem Zok : (Zjn A x n).length = n + 1:=by simp [Zjn]
theorem Zn3 {i : Nat} (hi : i < n + 1) : ((Zjn A x n)[i]?.getD []).length = n + 1:=by
 unfold Zjn;rw [List.getElem?_map,List.getElem?_range hi];simp
theorem Zq2 {i j : Nat} (hi : i < n + 1) (hj : j < n + 1) : Zi (Zjn A x n) i j = brd A x n i j:=by
 unfold Zi Zjn;rw [List.getElem?_map,List.getElem?_range hi,Option.map_some,Option.getD_some,List.getElem?_map,List.getElem?_range hj];rfl
theorem brdR_sm (hA : ∀ i j,i < n -> j < n -> LeN k (A i j)) (hx : ∀ i,i < n -> LeN k (x i)) : SmE k (Zjn A x n):=fun i j=>by
 have h0 : LeN k 0:=⟨Nat.zero_le _,Zdb _⟩
 by_cases hi : i < n + 1
 ·by_cases hj : j < n + 1
  ·rw [Zq2 hi hj]
   unfold brd
   by_cases h1 : i < n
   ·rw [if_pos h1]
    by_cases h2 : j < n
    ·rw [if_pos h2];exact hA i j h1 h2
    ·rw [if_neg h2];exact hx i h1
   ·rw [if_neg h1]
    by_cases h2 : j < n
    ·rw [if_pos h2];exact hx j h2
    ·rw [if_neg h2];exact h0
  ·unfold Zi
   rw [List.getElem?_eq_none (by rw [Zn3 hi];omega)];exact h0
 ·unfold Zi
  rw [List.getElem?_eq_none (l:=Zjn A x n) (by rw [Zok];omega)];exact h0
theorem Zi7 {t i j : Nat} (ht : t <= n + 1) (hi : i < n + 1) (hj : j < n + 1) : Zk (Zi (Zjn A x n)) t i j = Zk (brd A x n) t i j:=
 Zbn (n:=n + 1) (m:=n + 1) (fun _ _ hi hk=>Zq2 hi hk) (Nat.le_refl _) t i j ht hi hj
theorem Zus (hp : posP A n) {t : Nat} (ht : t <= n) : posP (Zi (Zjn A x n)) t:=fun s hs=>by
 have e : dQ (Zi (Zjn A x n)) s = dQ (brd A x n) s:=Zi7 (by omega) (by omega) (by omega);rw [e,Ziz x (by omega)];exact hp s (by omega)
theorem Zud (hn : n <= 6) (hA : ∀ i j,i < n -> j < n -> LeN 7 (A i j)) (hx : ∀ i,i < n -> LeN 7 (x i)) (hp : posP A n) {t i : Nat} (ht : t <= n) (hi : i < n + 1) : SmN 400 449 (Zk (brd A x n) t i n):=by
 have h:=(brdR_sm hA hx).red2 Zok (by omega) (fun i hi=>Zn3 hi) (t:=t) (by omega) (by omega) (Zus hp ht) hi n;rw [Zi7 (by omega) hi (by omega)] at h;have h1 : (7 * (n + 1) + 7 + 1) * (n + 1) <= 399:=Nat.le_trans (Nat.mul_le_mul (show 7 * (n + 1) + 7 + 1 <= 57 by omega) (show n + 1 <= 7 by omega)) (by decide);exact h.mono (by omega) (by omega)
theorem Zip (hn : n <= 6) (hF : FacP A n) (hA : ∀ i j,i < n -> j < n -> LeN 7 (A i j)) (hx : ∀ i,i < n -> LeN 7 (x i)) (hp : posP A n) : Zmz A n x:=by
 have hs:=fun t i ht hi=>Zud (t:=t) (i:=i) hn hA hx hp ht hi
 have hsum : ∀ t,t <= n -> Zar t (fun s=>zV A n x s * zV A n x s / dQ A s) = - Zk (brd A x n) t n n:=fun t ht=>by
  have h:=Zq1 hF.sym x t ht;rw [h];rw [Zbf (g:=fun s=>Zk (brd A x n) s s n * Zk (brd A x n) s s n / dQ (brd A x n) s) (fun s hs=>by rw [Ziz x (by omega)];rfl)]
  grind
 have hneg : ∀ t,t <= n -> SmN 400 449 (- Zk (brd A x n) t n n):=fun t ht=>by
  have h:=hs t n ht (by omega);exact ⟨by rw [Rat.neg_num,Int.natAbs_neg];exact h.1,by rw [Rat.neg_den];exact h.2⟩
 refine ⟨fun t i hti hi=>(hs t i (by omega) (by omega)).sm (by decide) (by decide),fun i t hti hi=>(hF.l i t (by omega) hi (hp.mono (by omega))).sm (by decide) (by decide),fun i t hti hi=>?_,fun i hi=>((hs i i (by omega) (by omega)).mulN (hs i i (by omega) (by omega))).sm (by decide) (by decide),fun i hi=>(hF.d hi (hp.mono (by omega))).sm (by decide) (by decide),fun i hi=>?_,fun i hi=>?_⟩
 ·have h:=Zld (A:=A) (x:=x) hti hi
  have e : lQ A i t * Zk (brd A x n) t t n = Zk (brd A x n) t i n - Zk (brd A x n) (t + 1) i n:=by
   rw [h];show lQ A i t * zV A n x t = _
   grind
  rw [e];exact ((hs t i (by omega) (by omega)).sub (hs (t + 1) i (by omega) (by omega))).sm (by decide) (by decide)
 ·have h1:=hsum i (by omega)
  have h2:=hsum (i + 1) (by omega);have h3 : Zar (i + 1) (fun s=>zV A n x s * zV A n x s / dQ A s) = Zar i (fun s=>zV A n x s * zV A n x s / dQ A s) + zV A n x i * zV A n x i / dQ A i:=rfl
  have e : zV A n x i * zV A n x i / dQ A i = - Zk (brd A x n) (i + 1) n n - - Zk (brd A x n) i n n:=by
   rw [<- h1,<- h2,h3];grind
  rw [e];exact ((hneg (i + 1) (by omega)).sub (hneg i (by omega))).sm (by decide) (by decide)
 ·rw [hsum i hi]
  exact (hneg i hi).sm (by decide) (by decide)
end
theorem Zm0 (k : Nat) (a b c a' b' c' : Int) (w : World) : (Op.equalIn (k + 2) 44 (.agg #[.int .i64 a,.int .i64 b,.int .i64 c]) (.agg #[.int .i64 a',.int .i64 b',.int .i64 c'])).run Tryz.prog w = .ok (decide (a = a') && decide (b = b') && decide (c = c')) w:=by
 have hu : Tryz.prog.underlying 44 = some (.array 3 2):=by kernel_rfl
 obtain ⟨i,hi⟩ : ∃ i,Tryz.prog.info? 2 = some i:=Option.isSome_iff_exists.1 (by kernel_rfl);rw [show k + 2 = (k + 1) + 1 from rfl,run_equalIn_array w (k + 1) _ _ hu hi]
 have h1 : Tryz.prog.cellsOf 2 = 1:=by kernel_rfl
 have h2 : Tryz.prog.underlying 2 = some (.int .i64):=by kernel_rfl
 rw [h1];simp only [Op.eqItems,List.range,List.range.loop];go_simp
 by_cases e1 : a = a' <;> by_cases e2 : b = b' <;> by_cases e3 : c = c' <;> simp [e1,e2,e3]
theorem Ztp (a b c : Int) (w : World) : (Op.equalIn 10000 44 (.agg #[.int .i64 a,.int .i64 b,.int .i64 c]) (.agg #[.int .i64 0,.int .i64 0,.int .i64 0])).run Tryz.prog w = .ok (decide (a = 0) && decide (b = 0) && decide (c = 0)) w:=Zm0 9998 a b c 0 0 0 w
theorem Zns (t a b c d e f t' a' b' c' d' e' f' : Int) (w : World) : (Op.equalIn 10000 46 (.agg #[.int .i64 t,.int .i64 a,.int .i64 b,.int .i64 c,.int .i64 d,.int .i64 e,.int .i64 f]) (.agg #[.int .i64 t',.int .i64 a',.int .i64 b',.int .i64 c',.int .i64 d',.int .i64 e',.int .i64 f'])).run Tryz.prog w = .ok (decide (t = t') && (decide (a = a') && decide (b = b') && decide (c = c')) && (decide (d = d') && decide (e = e') && decide (f = f'))) w:=by
 have hS : Tryz.prog.underlying 46 = some (.struct (Tryz.prog.fieldsOf 46)):=by kernel_rfl
 have hp : Tryz.prog.stoodInHeld 46 = false:=by kernel_rfl
 have hA:=fun a b c a' b' c' w=>Zm0 9997 a b c a' b' c' w
 have h2 : Tryz.prog.underlying 2 = some (.int .i64):=by kernel_rfl
 rw [show (10000 : Nat) = 9999 + 1 from rfl,run_equalIn_agg w 9999 46 _ _ hS hp];simp only [Program.fieldsOf,Tryz.underlying46];go_simp
 by_cases e0 : t = t'
 case neg=>simp [e0]
 simp only [e0,if_true,decide_true,Bool.true_and]
 by_cases h1 : a = a' /\ b = b' /\ c = c'
 ·obtain ⟨rfl,rfl,rfl⟩:=h1
  by_cases h2 : d = d' /\ e = e' /\ f = f'
  ·obtain ⟨rfl,rfl,rfl⟩:=h2
   simp
  ·have : d = d' -> e = e' -> ¬ f = f':=fun x y z=>h2 ⟨x,y,z⟩
   have h3 : (decide (d = d') && decide (e = e') && decide (f = f')) = false:=by
    rw [Bool.eq_false_iff];intro h;simp at h;exact h2 ⟨h.1.1,h.1.2,h.2⟩
   simp only [imp_false,not_true,if_false,decide_true,Bool.true_and];rw [if_pos this,h3]
 ·have : a = a' -> b = b' -> ¬ c = c':=fun x y z=>h1 ⟨x,y,z⟩
  have h3 : (decide (a = a') && decide (b = b') && decide (c = c')) = false:=by
   rw [Bool.eq_false_iff];intro h;simp at h;exact h1 ⟨h.1.1,h.1.2,h.2⟩
  rw [if_pos this,h3];simp
def outB (x y z m : Int) : Bool:=decide (m < x \/ m < y \/ m < z \/ x < -m \/ y < -m \/ z < -m)
theorem Znx (x y z m : Int) (hm : 0 <= m) (hm2 : m <= 9223372036854775807) (w : World) :
    Calls Tryz.prog 116 #[.agg #[.int .i64 x,.int .i64 y,.int .i64 z],.int .i64 m] w fun e w'=>e = .returned (.bool (outB x y z m)) /\ Below w.heap.size w w':=by
 have hB0 : ∀ X : Obj,Below w.heap.size w (w.alloc X):=fun X=>(Below.refl w.heap.size w).alloc (Nat.le_refl _) _
 have hB0:=Zb hB0;go_enter Tryz.func116,Tryz.ntmps116;go_wp2_with fail
 all_goals go_ret
 all_goals refine ⟨?_,hB0.out _⟩
 all_goals
  refine congrArg (fun b=>Ending.returned (.bool b)) ?_
  first
   | exact (decide_eq_true (by omega)).symm
   | (unfold outB;rw [Bool.eq_iff_iff];simp;omega)
structure St where
 t : Int
 p0 : Int
 p1 : Int
 p2 : Int
 v0 : Int
 v1 : Int
 v2 : Int
def stE (s : St) : Int:=if s.t < -5000000000000000 \/ 5000000000000000 < s.t \/ (s.p0 = 0 /\ s.p1 = 0 /\ s.p2 = 0) \/ outB s.p0 s.p1 s.p2 8796093022208 = true \/ outB s.v0 s.v1 s.v2 1099511627776 = true then 8 else 0
theorem Zca {w : World} {g : Nat} {t : TypeId} {a b c d e f h : Value} (q : Blk w g t #[a,b,c,d,e,f,h]) : w.cell? ⟨g,0,none⟩ = some a /\ w.cell? ⟨g,1,none⟩ = some b /\ w.cell? ⟨g,2,none⟩ = some c /\ w.cell? ⟨g,3,none⟩ = some d /\ w.cell? ⟨g,4,none⟩ = some e /\ w.cell? ⟨g,5,none⟩ = some f /\ w.cell? ⟨g,6,none⟩ = some h:=
 ⟨q.cell 0,q.cell 1,q.cell 2,q.cell 3,q.cell 4,q.cell 5,q.cell 6⟩
theorem Zks (s : St) (w : World) :
    Calls Tryz.prog 67 #[.agg #[.int .i64 s.t,.int .i64 s.p0,.int .i64 s.p1,.int .i64 s.p2,.int .i64 s.v0,.int .i64 s.v1,.int .i64 s.v2]] w fun e w'=>e = .returned (.int .i64 (stE s)) /\ Below w.heap.size w w':=by
 obtain ⟨t,p0,p1,p2,v0,v1,v2⟩:=s;simp only
 have hB0 : ∀ X : Obj,Below w.heap.size w (w.alloc X):=fun X=>(Below.refl w.heap.size w).alloc (Nat.le_refl _) _
 have hq0 : Blk (w.alloc (.cells #[.int .i64 t,.int .i64 p0,.int .i64 p1,.int .i64 p2,.int .i64 v0,.int .i64 v1,.int .i64 v2] 46)) w.heap.size 46 #[.int .i64 t,.int .i64 p0,.int .i64 p1,.int .i64 p2,.int .i64 v0,.int .i64 v1,.int .i64 v2]:=Blk.new w _ _;have hB0:=Zb hB0;replace hq0:=Zb hq0
 have hEq:=fun w=>Ztp p0 p1 p2 w
 obtain ⟨E,hE⟩ : ∃ E,stE ⟨t,p0,p1,p2,v0,v1,v2⟩ = E:=⟨_,rfl⟩;rw [hE];replace hE:=Zb hE;have hOut:=Zb (fun W x y z m h1 h2=>Znx x y z m h1 h2 W);go_enter Tryz.func67,Tryz.ntmps67
 by_cases h1 : t < -5000000000000000
 ·have t1 : decide (t < -5000000000000000) = true:=decide_eq_true h1
  go_wp2_with fail;go_ret
  have h8 : E = 8:=by rw [<- hE.out];exact if_pos (Or.inl h1)
  exact ⟨by rw [h8];rfl,hB0.out _⟩
 have t1 : decide (t < -5000000000000000) = false:=decide_eq_false h1
 by_cases h2 : 5000000000000000 < t
 ·have t2 : decide (5000000000000000 < t) = true:=decide_eq_true h2
  go_wp2_with fail;go_ret
  have h8 : E = 8:=by rw [<- hE.out];exact if_pos (Or.inr (Or.inl h2))
  exact ⟨by rw [h8];rfl,hB0.out _⟩
 have t2 : decide (5000000000000000 < t) = false:=decide_eq_false h2
 by_cases h3 : p0 = 0 /\ p1 = 0 /\ p2 = 0
 ·obtain ⟨rfl,rfl,rfl⟩:=h3
  go_wp2_with fail;go_ret
  have h8 : E = 8:=by rw [<- hE.out];exact if_pos (Or.inr (Or.inr (Or.inl ⟨rfl,rfl,rfl⟩)))
  exact ⟨by rw [h8];rfl,hB0.out _⟩
 have t3 : (decide (p0 = 0) && decide (p1 = 0) && decide (p2 = 0)) = false:=by
  rw [Bool.eq_false_iff];intro h;simp at h;exact h3 ⟨h.1.1,h.1.2,h.2⟩
 rw [t3] at hEq;go_wp2_with fail;refine (hOut.out _ _ _ _ _ (by omega) (by omega)).mono ?_;rintro e w1 ⟨rfl,hb1⟩;have hB1 : Hid (Below w.heap.size w w1):=Zb ((hB0.out _).trans (hb1.mono (by simp)));obtain ⟨c0,c1,c2,c3,c4,c5,c6⟩:=Zca (Zc hb1 hq0.out);clear hb1
 cases h4 : outB p0 p1 p2 8796093022208 with
 | true =>
  go_wp2_with fail;go_ret
  have h8 : E = 8:=by rw [<- hE.out];exact if_pos (Or.inr (Or.inr (Or.inr (Or.inl h4))))
  exact ⟨by rw [h8];rfl,hB1.out⟩
 | false =>
  go_wp2_with fail;refine (hOut.out _ _ _ _ _ (by omega) (by omega)).mono ?_;rintro e w2 ⟨rfl,hb2⟩;have hB2 : Hid (Below w.heap.size w w2):=Zb (hB1.out.trans (hb2.mono hB1.out.size));clear hb2
  cases h5 : outB v0 v1 v2 1099511627776 with
  | true =>
   go_wp2_with fail;go_ret
   have h8 : E = 8:=by rw [<- hE.out];exact if_pos (Or.inr (Or.inr (Or.inr (Or.inr h5))))
   exact ⟨by rw [h8];rfl,hB2.out⟩
  | false =>
   go_wp2_with fail;go_ret
   have h8 : E = 0:=by
    rw [<- hE.out]
    exact if_neg (by
     rintro (h | h | h | h | h)
     ·simp only at h;omega
     ·simp only at h;omega
     ·exact h3 h
     ·rw [h4] at h;cases h
     ·rw [h5] at h;cases h)
   exact ⟨by rw [h8];rfl,hB2.out⟩
end Go.Proofs.YtpehacgjclkhmaaGreat
