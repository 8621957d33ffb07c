/- A range over a function whose rounds come in a known -/
import Derived.RangeFuncNested
import Derived.Test.YtigdclhagmnopaaGreatZp27
set_option maxRecDepth 100000
set_option maxHeartbeats 2000000
set_option linter.unusedSimpArgs false
set_option linter.unusedVariables false
namespace Go.Proofs.YtigdclhagmnopaaGreat
open Go.RowKit
def Zux (d : Nat) (P : Program) (gf : Nat) (lb : Array Value) (encs : Nat -> Array Value) (Kp : World -> World -> Prop) (N : Nat) (w : World) : Prop:=
 ∀ (l : Nat) (J : Nat -> World -> Prop) (W : World),Below w.heap.size w W -> AbidesFrom W.heap.size J ->
  (∀ k V,k < N -> J k V -> YieldAt Fence.wide (d - 1) P l (encs k) V fun e V'=>e = .returned (.bool true) /\ J (k + 1) V' /\ Kp V V') ->
  J 0 W -> CallsIn Fence.wide d P gf (#[.func (.yield l) #[] #[]] ++ lb) W fun e V'=>(∃ v,e = .returned v) /\ J N V'
def goesOn (Kp : World -> World -> Prop) (J : World -> Prop) (W : World) : Exit -> Act -> World -> Prop
 | .normal,_,W'=>KeepsOthers W W' /\ Kp W W' /\ J W'
 | .ret,_,_=>False
 | .exit _,_,_=>False
 | .goto _,_,_=>False
 | .panic _,_,_=>False
 | .outgrown,_,_=>False
theorem Zlr {d : Nat} {P : Program} {g : Operand} {ps : Array Tmp} {assign body : Code} {Q : Exit -> Act -> World -> Prop} {a : Act} {w : World} (h1 : 1 <= d) {gf : Nat} {lb : Array Value}
    (hg : a.eval g = .func (.func gf) #[] lb) (eg : ∀ args w,(callFunc gf args).run P w = .ok (.enter gf args) w)
    {encs : Nat -> Array Value} {Kp : World -> World -> Prop} {N : Nat} {w0 : World} (hseq : Zux (d - 1) P gf lb encs Kp N w0)
    (hKt : ∀ {A B C : World},Kp A B -> Kp B C -> Kp A C) (hKb : ∀ (W : World) (l : Nat) (o o' : Obj),w.heap.size <= l -> W.heap[l]? = some o -> o.isCells = false -> o.isWalk = false -> Kp W (W.putObj l o')) (hb0 : Below w0.heap.size w0 w) (hps : ∀ k,(encs k).size = ps.size)
    (I : Nat -> World -> Prop) (hI : OwnFrom w.heap.size I) (h0 : I 0 w) (a₁ : Nat -> Act)
    (hassign : ∀ (l k : Nat) (W : World) (K : Act -> World -> Prop),k < N -> K (a₁ k) W ->
     assign.wpIn (Fence.wide.inRound l) (d - 1 - 1) P (Exit.then K (fun _ _ _=>False)) { tmps:=(ps.zip (encs k)).foldl (fun t (p,v)=>t.setIfInBounds p v) a.tmps,defers:=[] } W)
    (hbody : ∀ (l k : Nat) (W : World),k < N -> I k W -> body.wpIn (Fence.wide.inRound l) (d - 1 - 1) P (goesOn Kp (I (k + 1)) W) (a₁ k) W)
    (hdone : ∀ (D : Nat) (W : World),w.heap.size <= D -> I N W -> W.heap[D]? = some (.deferred (some [])) -> Q .normal { a with defers:={ target:=.collected D,args:=#[] } :: a.defers } W) :
    (Code.rangeFunc g ps assign body).wpIn Fence.wide d P Q a w:=by
 refine wpIn_rangeFunc fun fn hfn=>?_
 rw [show Fence.wide.round = none from rfl];obtain ⟨B,hB⟩ : ∃ B,w.heap.size = B:=⟨_,rfl⟩;rw [hB] at hI hKb hdone
 obtain ⟨rec,hrec⟩ : ∃ rec : LoopState -> Option Code -> Loop,rec = fun st pe=>{ state:=st,pending:=pe,fn,tmps:=a.tmps,params:=ps,assign,body,defers:=B }:=⟨_,rfl⟩
 obtain ⟨W1,hW1⟩ : ∃ V,(w.alloc (.deferred (some []))).alloc (.loop (rec .ready none)) = V:=⟨_,rfl⟩
 have sz : W1.heap.size = B + 1 + 1:=by rw [<- hW1,<- hB];simp
 have lp : W1.heap[B + 1]? = some (.loop (rec .ready none)):=by
  have h:=World.alloc_heap_new (w.alloc (.deferred (some []))) (.loop (rec .ready none));rw [World.size_alloc,hB,hW1] at h;exact h
 have df : W1.heap[B]? = some (.deferred (some [])):=by
  rw [<- hW1,<- hB];exact (Below.heap_alloc _ _ _ (by simp)).trans (World.alloc_heap_new w _)
 have i1 : I 0 W1:=by rw [<- hW1];exact hI.alloc _ (hI.alloc _ h0)
 have b1 : Below w0.heap.size w0 W1:=by
  rw [<- hW1];exact hb0.trans (((Below.refl _ w).alloc (Nat.le_refl _) _).trans ((Below.refl _ _).alloc (by simp) _) |>.mono hb0.size)
 obtain ⟨J,hJ⟩ : ∃ J : Nat -> World -> Prop,J = fun k W=>I k W /\ W.heap[B + 1]? = some (.loop (rec .ready none)) /\ W.heap[B]? = some (.deferred (some [])):=⟨_,rfl⟩
 have key:=hseq (B + 1) J W1 b1 (fun k X Y row hs hgr hr=>by
     rw [hJ] at hs ⊢
     have hr2 : ∀ r,row = some r -> ∃ o : Obj,X.heap[r]? = some o /\ o.isWalk = true:=fun r e=>(hr r e).2
     refine ⟨hI k X Y row hs.1 hgr (fun r e=>?_),(grownBy_keeps hgr hr2 hs.2.1 rfl).trans hs.2.1,(grownBy_keeps hgr hr2 hs.2.2 rfl).trans hs.2.2⟩;obtain ⟨hl,o,ho,hw⟩:=hr r e
     exact ⟨by omega,o,ho,Obj.not_cells_of_walk hw⟩)
  (fun k V hk hs=>by
   rw [hJ] at hs;obtain ⟨hi,hl,hd⟩:=hs;have hlt : B + 1 < V.heap.size:=(Array.getElem?_eq_some_iff.1 hl).1;have hy:=run_yield (P:=P) (args:=encs k) hl (by rw [hrec];exact hps k);rw [hrec] at hy;obtain ⟨V2,hV2⟩ : ∃ X,V.putObj (B + 1) (.loop { rec .ready none with state:=.busy }) = X:=⟨_,rfl⟩;refine ⟨fn,_,assign,body,hy,roundIn_of_wpIn hfn (hassign _ k V _ hk ⟨V2,by rw [<- hV2];exact run_beginRound hl (by rw [hrec]),?_⟩)⟩
   have hl2 : V2.heap[B + 1]? = some (.loop { rec .ready none with state:=.busy }):=by rw [<- hV2];exact World.putObj_heap_same hlt
   have hd2 : V2.heap[B]? = some (.deferred (some [])):=by rw [<- hV2];exact (World.putObj_heap_other (by omega)).trans hd
   have hp2 : Kp V V2:=by rw [<- hV2];exact hKb _ _ _ _ (by omega) hl rfl rfl
   have hi2 : I k V2:=by rw [<- hV2];exact hI.putObj _ hi (by omega) hl rfl
   refine wpIn_mono (hbody _ k V2 hk hi2) fun e a3 V3 hq=>?_
   cases e with
   | normal =>
    obtain ⟨ko,kp,i3⟩:=hq;have hl3:=ko.same _ _ hl2 rfl;have hend:=run_endRound (P:=P) none hl3;rw [hrec] at hend hl3;refine ⟨_,_,hend,rfl,?_,hKt (hKt hp2 kp) (hKb _ _ _ _ (by omega) hl3 rfl rfl)⟩;rw [hJ];refine ⟨hI.putObj _ i3 (by omega) hl3 rfl,?_,(World.putObj_heap_other (by omega)).trans (ko.same _ _ hd2 rfl)⟩;rw [hrec];exact World.putObj_heap_same (Array.getElem?_eq_some_iff.1 hl3).1
   | ret=>exact hq.elim
   | exit id=>exact hq.elim
   | goto t=>exact hq.elim
   | panic ch=>exact hq.elim
   | outgrown=>exact hq.elim)
  (by rw [hJ];exact ⟨i1,lp,df⟩)
 refine ⟨B + 1,[{ target:=.collected B,args:=#[] }],W1,{ target:=.fn (.func gf) lb,args:=#[.func (.yield (B + 1)) #[] #[]] },W1,gf,#[.func (.yield (B + 1)) #[] #[]] ++ lb,W1,?_,?_,fun _ _=>trivial,?_,fun _=>h1,?_⟩
 ·rw [<- hW1,hrec,<- hB];exact run_enterLoop_outer _ _ _ _ _
 ·simp only [resolve,hg]
  simp [go_sem]
 ·simp [invoke,go_sem,eg]
 ·refine key.mono ?_
  rintro e W2 ⟨⟨v,rfl⟩,hs⟩;rw [hJ] at hs;obtain ⟨hi,hl,hd⟩:=hs;have hend:=run_endLoop (P:=P) hl (by rw [hrec];simp);rw [hrec] at hend;exact ⟨none,_,hend,hdone _ _ (Nat.le_refl _) (hI.putObj _ hi (by omega) hl rfl) ((World.putObj_heap_other (by omega)).trans hd)⟩
def Zlh (es : List RS) (n : Nat) (k : Nat) : Array Value:=#[.int .i64 ((n - 1 - k : Nat) : Int),RS.val (rsAt es (n - 1 - k))]
theorem Ztc (d : Nat) (hd : 1 <= d) (Bs n c : Nat) (A : Option Addr) (es : List RS) (w : World) (hc : w.cell? ⟨Bs,0,none⟩ = some (.slice A n c)) (hL0 : SL w A n c es) :
    Zux d Tryz.prog 155 #[.pointer (some ⟨Bs,0,none⟩)] (Zlh es n) (KpR Bs A n c es) n w:=by
 intro lp J W hW _ hY h0;have hBs : W.cell? ⟨Bs,0,none⟩ = some (.slice A n c):=(hW.cell (Zp hc)).trans hc;have hL : SL W A n c es:=hL0.below hW;clear hW hc hL0;have hnc:=hL.2.1;have hcm:=hL.2.2.1;unfold maxLen at hcm;refine callsIn_of_wp Tryz.func155 rfl trivial ?_ rfl;simp only [Tryz.ntmps155,List.size_toArray,List.length_cons,List.length_nil,Nat.reduceAdd,Nat.reduceSub,Array.replicate_succ,Array.replicate_zero,List.push_toArray,List.append_toArray,List.nil_append,List.cons_append]
 gi_wp2
 gi_loopw [3] (fun i wr=>∃ k : Nat,k <= n /\ i = .int .i64 ((n : Int) - 1 - k) /\ J k wr /\ Hid (wr.cell? ⟨Bs,0,none⟩ = some (.slice A n c)) /\ SL wr A n c es)
  (fun i _=>(intOf i + 1).toNat)
 case atStart=>exact ⟨0,Nat.zero_le _,by go_num,h0,hBs,hL⟩
 case round =>
  obtain ⟨k,hk,rfl,hJs,hbx',hLr⟩:=hrel;have hbx:=hbx'.out
  by_cases hlt : k < n
  ·obtain ⟨b,o,e,rfl,he,hc1⟩:=hLr.at_ (k:=n - 1 - k) (by omega)
   obtain ⟨fn,tmps,assign,body,hy,hR⟩:=hY k wr hlt hJs;dsimp only [Zlh,RS.val,rsAt] at hy;rw [he,Option.getD_some] at hy;rw [show ((n - 1 - k : Nat) : Int) = (n : Int) - 1 - k by omega] at hy
   gi_wp2
   refine hR.mono ?_;rintro e W3 ⟨rfl,hJ3,hk3⟩;have hbx3:=Za (hk3.1 hbx'.out)
   gi_wp2
   go_roundw
   case rel=>exact ⟨k + 1,by omega,by go_num,hJ3,hbx3,hk3.2 hLr⟩
   case measure=>simp [intOf];omega
  ·obtain rfl : k = n:=by omega
   gi_wp2
   go_end0
   exact ⟨⟨_,rfl⟩,hJs⟩
attribute [local go_sem] Zh
theorem Zqj (na : Bool) (A B : Option Addr) (n c m d : Nat) (za zb : Int) (w : World) (ha : Wd w na A n c za) (hb : Wd w true B m d zb) (h0 : zb < 0) :
    Calls Tryz.prog 151 #[.agg #[.bool na,.slice A n c],.agg #[.bool true,.slice B m d]] w (Zjk w (Rat.divInt za zb)):=by
 have hgs:=Zd8 ha.small hb.small;have hx:=Za (Zjz (a:=za) (b:=zb) (by omega));have hy:=Za (Zjw (a:=za) (b:=zb) (by omega));have hG0:=Za (Znf (a:=za) (b:=zb) (by omega))
 have hGE : Zf5 za zb = -((Nat.gcd za.natAbs zb.natAbs : Nat) : Int):=by unfold Zf5;rw [if_pos h0]
 rw [hGE] at hx hy hG0;have HA:=Za ha;have HB:=Za hb;obtain ⟨G,hG⟩ : ∃ G,Nat.gcd za.natAbs zb.natAbs = G:=⟨_,rfl⟩;rw [hG] at hx hy hG0 hgs
 have HGc : Hid (∀ W : World,Wd W na A n c za -> Wd W true B m d zb -> Calls Tryz.prog 96 #[.agg #[.bool na,.slice A n c],.agg #[.bool true,.slice B m d]] W (ResW W (G : Int))):=fun W h1 h2=>by
  have:=Zi2 na true A B n c m d za zb W h1 h2;rw [hG] at this;exact this
 generalize Rat.divInt za zb = R at *
 clear ha hb hG hGE
 have hB0 : ∀ X Y Z : Obj,Below w.heap.size w (((w.alloc X).alloc Y).alloc Z):=fun X Y Z=>(((Below.refl w.heap.size w).alloc (Nat.le_refl _) _).alloc (by simp) _).alloc (by simp;omega) _
 have hB0:=Za hB0;go_enter Tryz.func151,Tryz.ntmps151;go_wp2_with fail;have q0 : Blk (((w.alloc (.cells #[.bool na,.slice A n c] 43)).alloc (.cells #[.bool true,.slice B m d] 43)).alloc (.cells #[.bool false,.slice none 0 0,.bool false,.slice none 0 0] 45)) w.heap.size 43 #[.bool na,.slice A n c]:=((Blk.new _ _ _).alloc _).alloc _
 have q1 : Blk (((w.alloc (.cells #[.bool na,.slice A n c] 43)).alloc (.cells #[.bool true,.slice B m d] 43)).alloc (.cells #[.bool false,.slice none 0 0,.bool false,.slice none 0 0] 45)) (w.heap.size + 1) 43 #[.bool true,.slice B m d]:=by
  have:=(Blk.new (w.alloc (.cells #[.bool na,.slice A n c] 43)) 43 #[.bool true,.slice B m d]).alloc (.cells #[.bool false,.slice none 0 0,.bool false,.slice none 0 0] 45);simp only [World.size_alloc] at this;exact this
 have q2 : Blk (((w.alloc (.cells #[.bool na,.slice A n c] 43)).alloc (.cells #[.bool true,.slice B m d] 43)).alloc (.cells #[.bool false,.slice none 0 0,.bool false,.slice none 0 0] 45)) (w.heap.size + 1 + 1) 45 #[.bool false,.slice none 0 0,.bool false,.slice none 0 0]:=by
  have:=Blk.new ((w.alloc (.cells #[.bool na,.slice A n c] 43)).alloc (.cells #[.bool true,.slice B m d] 43)) 45 #[.bool false,.slice none 0 0,.bool false,.slice none 0 0];simp only [World.size_alloc] at this;exact this
 refine (HGc.out _ (((HA.out.alloc _).alloc _).alloc _) (((HB.out.alloc _).alloc _).alloc _)).mono ?_;rintro e w1 ⟨hb1,ng,Ag,kg,cg,code,rfl,hR⟩
 rcases hR with ⟨-,rfl,hgw⟩ | ⟨hbig,-⟩
 case inr=>exact absurd hbig (by omega)
 have hB1 : Below w.heap.size w w1:=(hB0.out _ _ _).trans (hb1.mono (by simp;omega));have HA1:=Za (HA.out.below hB1);have HB1:=Za (HB.out.below hB1)
 have s1 : w.heap.size + 1 + 1 < w1.heap.size:=by have:=hb1.size;simp at this;omega
 replace q0:=Zb hb1 q0;replace q1:=Zb hb1 q1;replace q2:=Zb hb1 q2;obtain ⟨c00,c01,-,-⟩:=q0.two;obtain ⟨c10,c11,-,-⟩:=q1.two;have hq:=Za (And.intro q0 (And.intro q1 q2));clear q0 q1 q2 hb1;go_wp2_with fail;refine (Zdb ng Ag kg cg _).mono ?_;rintro e w2 ⟨rfl,hb2⟩;have hB2 : Below w.heap.size w w2:=hB1.trans (hb2.mono hB1.size);have HA2:=Za (HA1.out.below hb2);have HB2:=Za (HB1.out.below hb2);have HG2:=Za (hgw.below hb2)
 have s2 : w.heap.size + 1 + 1 < w2.heap.size:=by have:=hb2.size;omega
 have q0:=Zb hb2 hq.out.1;have q1:=Zb hb2 hq.out.2.1;have q2:=Zb hb2 hq.out.2.2;clear c00 c01 c10 c11 hB1 hb2 hgw HA1 HB1 hq;obtain ⟨W3,hW3,hB3,q3,kW,kB,s3⟩:=Zy 43 #[.bool ng,.slice Ag kg cg] hB2 (by omega);replace q0:=kB _ _ _ q0;replace q1:=kB _ _ _ q1;replace q2:=kB _ _ _ q2;have HA3:=Za (kW _ _ _ _ _ HA2.out);have HB3:=Za (kW _ _ _ _ _ HB2.out);have HG3:=Za (kW _ _ _ _ _ HG2.out);have s4 : w.heap.size + 1 + 1 < w2.heap.size:=s2;clear kW kB HA2 HB2 HG2 hB2;have c0:=Za q0.two;have c1:=Za q1.two;have c3:=Za q3.two;rw [<- hW3] at c0 c1 c3;obtain ⟨c00,c01,-,-⟩:=c0.out;obtain ⟨c10,c11,-,-⟩:=c1.out;obtain ⟨c30,c31,-,-⟩:=c3.out;have hq:=Za (And.intro q0 (And.intro q1 (And.intro q2 q3)));clear q0 q1 q2 q3;replace hW3:=Za hW3;go_wp2_with fail;rw [hW3.out];refine (Zq3 ng Ag kg cg G W3 HG3.out).mono ?_;rintro e w4 ⟨hb4,n5,A5,k5,c5,code,rfl,hR⟩
 have hsm : (-(G : Int)).natAbs < pw 4096:=by rw [Int.natAbs_neg];exact HG3.out.small
 have HN4:=Za (hR.small hsm);have hcode:=hR.code0 hsm;subst hcode;have hB4 : Below w.heap.size w w4:=hB3.trans (hb4.mono (by omega));have HA4:=Za (HA3.out.below hb4);have HB4:=Za (HB3.out.below hb4)
 have s5 : w2.heap.size + 1 <= w4.heap.size:=by have:=hb4.size;omega
 have q0:=Zb hb4 hq.out.1;have q1:=Zb hb4 hq.out.2.1;have q2:=Zb hb4 hq.out.2.2.1;have q3:=Zb hb4 hq.out.2.2.2;clear hb4 c0 c1 c3 c00 c01 c10 c11 c30 c31 hW3 HA3 HB3 HG3 hB3 hq hR hsm;have hq:=Za (And.intro q0 (And.intro q1 (And.intro q2 q3)));clear q0 q1 q2 q3;go_wp2_with fail;refine (Zdb n5 A5 k5 c5 _).mono ?_;rintro e w5 ⟨rfl,hb5⟩;have hB5 : Below w.heap.size w w5:=hB4.trans (hb5.mono (by omega));have HA5:=Za (HA4.out.below hb5);have HB5:=Za (HB4.out.below hb5);have HN5:=Za (HN4.out.below hb5);have s6 : w4.heap.size <= w5.heap.size:=hb5.size;have q0:=Zb hb5 hq.out.1;have q1:=Zb hb5 hq.out.2.1;have q2:=Zb hb5 hq.out.2.2.1;have q3:=Zb hb5 hq.out.2.2.2;clear hb5 HA4 HB4 HN4 hB4 hq;obtain ⟨W7,hW7,hB7,q3',kW,kB,s7⟩:=Zax n5 A5 k5 c5 hB5 (by omega) q3;replace q0:=kB _ _ _ (by omega) q0;replace q1:=kB _ _ _ (by omega) q1;replace q2:=kB _ _ _ (by omega) q2;have HA7:=Za (kW _ _ _ _ _ HA5.out);have HB7:=Za (kW _ _ _ _ _ HB5.out);have HG7:=Za (kW _ _ _ _ _ HN5.out);obtain ⟨x30,x31,y30,y31⟩:=q3.two;have c0:=Za q0.two;have c1:=Za q1.two;have c3:=Za q3'.two;obtain ⟨c00,c01,-,-⟩:=c0.out;obtain ⟨c10,c11,-,-⟩:=c1.out;obtain ⟨c30,c31,-,-⟩:=c3.out;have hq:=Za (And.intro q0 (And.intro q1 (And.intro q2 q3')));clear q0 q1 q2 q3 q3' kW kB HA5 HB5 HN5 hB5;replace hW7:=Za hW7;have hW7':=hW7.out;go_wp2_with fail;(try rw [hW7.out]);clear x30 x31 y30 y31 hW7';refine (Ze3 na n5 A A5 n c k5 c5 za (-(G : Int)) _ HA7.out HG7.out hG0.out).mono ?_;rintro e w9 ⟨hb9,nx,Ax,kx,cx,nr,Ar,kr,cr,rfl,hwx,-⟩
 rw [hx.out] at hwx;have hB4 : Below w.heap.size w w9:=hB7.trans (hb9.mono (by omega));have HB4:=Za (HB7.out.below hb9);have HG4:=Za (HG7.out.below hb9)
 have s8 : w2.heap.size + 1 <= w9.heap.size:=by have:=hb9.size;omega
 have q1:=Zb hb9 hq.out.2.1;have q2:=Zb hb9 hq.out.2.2.1;have q3:=Zb hb9 hq.out.2.2.2;clear hb9 c0 c1 c3 c00 c01 c10 c11 c30 c31 hW7 HA7 HB7 HG7 hB7 hq;obtain ⟨W5,hW5,hB5,q5,kW,kB,s6⟩:=Zy 43 #[.bool nx,.slice Ax kx cx] hB4 (by omega);replace q1:=kB _ _ _ q1;replace q2:=kB _ _ _ q2;replace q3:=kB _ _ _ q3;have HB5:=Za (kW _ _ _ _ _ HB4.out);have HG5:=Za (kW _ _ _ _ _ HG4.out);have HX5:=Za (kW _ _ _ _ _ hwx);clear kW kB HB4 HG4 hwx hB4;obtain ⟨W6,hW6,hB6,-,kW,kB,s7⟩:=Zy 43 #[.bool nr,.slice Ar kr cr] hB5 (by omega);replace q1:=kB _ _ _ q1;replace q2:=kB _ _ _ q2;replace q3:=kB _ _ _ q3;replace q5:=kB _ _ _ q5;have HB6:=Za (kW _ _ _ _ _ HB5.out);have HG6:=Za (kW _ _ _ _ _ HG5.out);have HX6:=Za (kW _ _ _ _ _ HX5.out);clear kW kB HB5 HG5 HX5 hB5;have c1:=Za q1.two;have c3:=Za q3.two;rw [<- hW6,<- hW5] at c1 c3;obtain ⟨c10,c11,-,-⟩:=c1.out;obtain ⟨c30,c31,-,-⟩:=c3.out;have hq:=Za (And.intro q2 q5);clear q1 q2 q3 q5;rw [<- hW5] at hW6;replace hW6:=Za hW6;clear hW5;go_wp2_with fail;rw [hW6.out];refine (Ze3 true n5 B A5 m d k5 c5 zb (-(G : Int)) _ HB6.out HG6.out hG0.out).mono ?_;rintro e w7 ⟨hb7,ny,Ay,ky,cy,ns,As,ks,cs,rfl,hwy,-⟩;rw [hy.out] at hwy;have hB7 : Below w.heap.size w w7:=hB6.trans (hb7.mono (by omega));have HX7:=Za (HX6.out.below hb7)
 have s11 : w9.heap.size + 2 <= w7.heap.size:=by have:=hb7.size;omega
 have q2:=Zb hb7 hq.out.1;have q5:=Zb hb7 hq.out.2;clear hb7 c1 c3 c10 c11 c30 c31 hW6 HB6 HG6 HX6 hB6 hq;obtain ⟨W8,hW8,hB8,q8,kW,kB,s9⟩:=Zy 43 #[.bool ny,.slice Ay ky cy] hB7 (by omega);replace q2:=kB _ _ _ q2;replace q5:=kB _ _ _ q5;have HX8:=Za (kW _ _ _ _ _ HX7.out);have HY8:=Za (kW _ _ _ _ _ hwy);clear kW kB HX7 hwy hB7;obtain ⟨W9,hW9,hB9,-,kW,kB,s10⟩:=Zy 43 #[.bool ns,.slice As ks cs] hB8 (by omega);replace q2:=kB _ _ _ q2;replace q5:=kB _ _ _ q5;replace q8:=kB _ _ _ q8;have HX9:=Za (kW _ _ _ _ _ HX8.out);have HY9:=Za (kW _ _ _ _ _ HY8.out);clear kW kB HX8 HY8 hB8;have c5:=Za q5.two;have c8:=Za q8.two;have c2:=Za q2.four;have hq:=Za q2;rw [<- hW9,<- hW8] at c5 c8 c2;rw [<- hW8] at hW9;clear hW8 q2 q5 q8;obtain ⟨c50,c51,-,-⟩:=c5.out;obtain ⟨c80,c81,-,-⟩:=c8.out;obtain ⟨c20,c21,c22,c23,f20,f21,f22,f23⟩:=c2.out;replace hW9:=Za hW9;replace hB9:=Za hB9;go_wp2_with fail;rw [hW9.out];obtain ⟨W,hW,hB,hblk,kW,-⟩:=Zad nx Ax kx cx ny Ay ky cy hB9.out (by omega) hq.out;rw [hW];obtain ⟨r0,r1,r2,r3,-⟩:=hblk.four;refine bodyPost_ret (v:=.agg #[.bool nx,.slice Ax kx cx,.bool ny,.slice Ay ky cy]) (by simp [results,Tryz.results151,go_sem,r0,r1,r2,r3]) rfl ?_;exact ⟨hB,_,_,_,_,_,_,_,_,rfl,kW _ _ _ _ _ HX9.out,kW _ _ _ _ _ HY9.out⟩
theorem Zpy (na nb : Bool) (A B : Option Addr) (n c m d : Nat) (za zb : Int) (w : World) (ha : Wd w na A n c za) (hb : Wd w nb B m d zb) (h0 : zb ≠ 0) :
    Calls Tryz.prog 151 #[.agg #[.bool na,.slice A n c],.agg #[.bool nb,.slice B m d]] w (Zjk w (Rat.divInt za zb)):=by
 by_cases hn : zb < 0
 ·have : nb = true:=by rw [hb.1];exact decide_eq_true hn
  subst this;exact Zqj na A B n c m d za zb w ha hb hn
 ·have : nb = false:=by rw [hb.1];exact decide_eq_false hn
  subst this;exact Zhq na A B n c m d za zb w ha hb (by omega)
theorem Ztw (F : FuncId) (na nb na' nb' : Bool) (A B A' B' : Option Addr) (n c m d n' c' m' d' : Nat) (a b : Rat) (X Y : Int) (w : World) (ha : Fr w na A n c nb B m d a) (hb : Fr w na' A' n' c' nb' B' m' d' b) (hY : Y ≠ 0) (hcf : ∀ (x y : Value) (W : World),(callFunc F #[x,y]).run Tryz.prog W = .ok (.enter F #[x,y]) W)
    (hF : ∀ W : World,Fr W na A n c nb B m d a -> Fr W na' A' n' c' nb' B' m' d' b -> Calls Tryz.prog F #[.agg #[.bool na,.slice A n c,.bool nb,.slice B m d],.agg #[.bool na',.slice A' n' c',.bool nb',.slice B' m' d']] W (Zmj W X Y)) :
    Calls Tryz.prog 119 #[.agg #[.bool na,.slice A n c,.bool nb,.slice B m d],.agg #[.bool na',.slice A' n' c',.bool nb',.slice B' m' d'],.func (.func F) #[] #[]] w (Zhh w (Rat.divInt X Y)):=by
 obtain ⟨W0,hW0,hB0,⟨q0,q1,q2,q3⟩,s0⟩:=Zf6 w 45 #[.bool na,.slice A n c,.bool nb,.slice B m d] 45 #[.bool na',.slice A' n' c',.bool nb',.slice B' m' d'] 45 #[.bool false,.slice none 0 0,.bool false,.slice none 0 0] 24 #[.int .i64 0];have hA:=Za (ha.below hB0);have hD:=Za (hb.below hB0);replace hF:=Za hF;clear ha hb;replace hW0:=Za hW0;obtain ⟨a0,a1,a2,a3,-⟩:=q0.four;have hq:=Za (And.intro q0 (And.intro q1 (And.intro q2 q3)));clear q0 q1 q2 q3
 go_enter_defers Tryz.func119,Tryz.ntmps119
 have hW0':=hW0.out;go_wp2_with fail;clear hW0 hW0';refine (Zdq na nb A B n c m d a W0 hA.out).mono ?_;rintro e w1 ⟨rfl,hb1⟩;have hB1 : Below w.heap.size w w1:=hB0.trans (hb1.mono hB0.size);have s1 : W0.heap.size <= w1.heap.size:=hb1.size;replace hA:=Za (hA.out.below hb1);replace hD:=Za (hD.out.below hb1);obtain ⟨q0,q1,q2,q3⟩:=hq.out;replace q0:=Zb hb1 q0;replace q1:=Zb hb1 q1;replace q2:=Zb hb1 q2;replace q3:=Zb hb1 q3;clear hq hb1 hB0 a0 a1 a2 a3;obtain ⟨b0,b1,b2,b3,-⟩:=q1.four;have hq:=Za (And.intro q0 (And.intro q1 (And.intro q2 q3)));clear q0 q1 q2 q3;go_wp2_with fail;refine (Zen w1).mono ?_;rintro e w1 ⟨rfl,rfl⟩;go_wp2_with fail;refine (Zdq na' nb' A' B' n' c' m' d' b w1 hD.out).mono ?_;rintro e w2 ⟨rfl,hb2⟩;have hB2 : Below w.heap.size w w2:=hB1.trans (hb2.mono hB1.size);have s2 : w1.heap.size <= w2.heap.size:=hb2.size;replace hA:=Za (hA.out.below hb2);replace hD:=Za (hD.out.below hb2);obtain ⟨q0,q1,q2,q3⟩:=hq.out;replace q0:=Zb hb2 q0;replace q1:=Zb hb2 q1;replace q2:=Zb hb2 q2;replace q3:=Zb hb2 q3;clear hq hb2 hB1 b0 b1 b2 b3;obtain ⟨a0,a1,a2,a3,-⟩:=q0.four;obtain ⟨b0,b1,b2,b3,-⟩:=q1.four;have hq:=Za (And.intro q2 q3);clear q0 q1 q2 q3;go_wp2_with fail;refine (Zen w2).mono ?_;rintro e w2 ⟨rfl,rfl⟩;go_wp2_with fail;refine (hF.out w2 hA.out hD.out).mono ?_;rintro e w3 ⟨hb3,nu,U,k1,u,nv,V,k2,v,rfl,hU,hV⟩;have hB3 : Below w.heap.size w w3:=hB2.trans (hb3.mono hB2.size);have s3 : w2.heap.size <= w3.heap.size:=hb3.size;have q2:=Zb hb3 hq.out.1;have q3:=Zb hb3 hq.out.2
 clear hq hb3 hB2 a0 a1 a2 a3 b0 b1 b2 b3 hA hD hF;have hq:=Za (And.intro q2 q3);replace hU:=Za hU;replace hV:=Za hV;clear q2 q3;go_wp2_with fail;refine (Zpy nu nv U V k1 u k2 v X Y w3 hU.out hV.out hY).mono ?_;rintro e w4 ⟨hb4,nx,Ax,kx,cx,ny,Ay,ky,cy,rfl,hF⟩;have hB4 : Below w.heap.size w w4:=hB3.trans (hb4.mono hB3.size);have s4 : w3.heap.size <= w4.heap.size:=hb4.size;have q2:=Zb hb4 hq.out.1;have q3:=Zb hb4 hq.out.2;clear hq hb4 hU hV hB3;have c2:=Za q2.four;have c3:=q3.cell 0;have f3:=q3.frozen 0
 simp at c3
 obtain ⟨c20,c21,c22,c23,f20,f21,f22,f23⟩:=c2.out;have hq:=Za (And.intro q2 q3);clear q2 q3;go_wp2_with fail;obtain ⟨W5,hW5,hB5,q2,kW,kB,s5⟩:=Zad nx Ax kx cx ny Ay ky cy hB4 (by omega) hq.out.1;have q3:=kB _ _ _ (by omega) hq.out.2;have HX5:=Za (kW _ _ _ _ _ hF.1);have HY5:=Za (kW _ _ _ _ _ hF.2);rw [hW5];clear kW kB c20 c21 c22 c23 c3 f3 f20 f21 f22 f23 hq hF;obtain ⟨W6,hW6,hB6,q3,kW,kB,s6⟩:=Zin 0 hB5 (by omega) q3;replace q2:=kB _ _ _ (by omega) q2;have HX6:=Za (kW _ _ _ _ _ HX5.out);have HY6:=Za (kW _ _ _ _ _ HY5.out);rw [hW6];obtain ⟨r0,r1,r2,r3,-⟩:=q2.four;have r4:=q3.cell 0
 simp at r4
 clear kW kB hB5 HX5 HY5 hW5 hW6;refine leaves_cons (f:=102) (args:=#[.pointer (some ⟨w.heap.size + 1 + 1 + 1,0,none⟩)]) (by simp) (by simp [go_sem]) ?_;refine (Zfz _ _).mono ?_;rintro e u' w'' ⟨rfl,rfl,rfl⟩;refine ⟨.tuple #[.agg #[.bool nx,.slice Ax kx cx,.bool ny,.slice Ay ky cy],.int .i64 0],by simp [results,Tryz.results119,go_sem,r0,r1,r2,r3,r4],?_⟩;exact ⟨hB6,_,_,_,_,_,_,_,_,rfl,HX6.out,HY6.out⟩
theorem Zqb (x y : Value) (W : World) : (callFunc 156 #[x,y]).run Tryz.prog W = .ok (.enter 156 #[x,y]) W:=by simp [go_sem]
theorem Div1_ok (na nb na' nb' : Bool) (A B A' B' : Option Addr) (n c m d n' c' m' d' : Nat) (a b : Rat) (w : World) (ha : Fr w na A n c nb B m d a) (hb : Fr w na' A' n' c' nb' B' m' d' b)
    (hs : (a.num * b.den).natAbs < pw 4096) (ht : ((a.den : Int) * b.num).natAbs < pw 4096) (h0 : b ≠ 0) :
    Calls Tryz.prog 156 #[.agg #[.bool na,.slice A n c,.bool nb,.slice B m d],.agg #[.bool na',.slice A' n' c',.bool nb',.slice B' m' d']] w (Zmj w (a.num * b.den) ((a.den : Int) * b.num)):=by
 obtain ⟨W0,hW0,hB0,⟨q0,q1,q2,q3⟩,s0⟩:=Zf6 w 45 #[.bool na,.slice A n c,.bool nb,.slice B m d] 45 #[.bool na',.slice A' n' c',.bool nb',.slice B' m' d'] 43 #[.bool false,.slice none 0 0] 43 #[.bool false,.slice none 0 0]
 have hz0 : ((n' : Int) == 0) = false:=by
  have : n' ≠ 0:=fun e=>h0 (hb.zero_iff.1 e)
  simp;omega
 have hmx : Tryz.prog.follows .mixedOrders = true:=by kernel_rfl
 have hA:=Za (ha.below hB0);have hD:=Za (hb.below hB0);replace hs:=Za hs;replace ht:=Za ht;have sz:=Za hB0.size;have hB:=Za hB0;clear ha hb hB0 s0;replace q0:=Za q0;replace q1:=Za q1;replace q2:=Za q2;replace q3:=Za q3;obtain ⟨a0,a1,a2,a3,-⟩:=q0.out.four;obtain ⟨b0,b1,b2,b3,-⟩:=q1.out.four;replace hW0:=Za hW0;go_enter Tryz.func156,Tryz.ntmps156;go_wp2_with fail;rw [hW0.out];refine (Zig na' A' n' c' W0 (Nat.le_trans hD.out.1.2.1 (by decide)) false hz0).mono ?_;rintro e wz ⟨rfl,hbz⟩;replace q0:=Za (Zb hbz q0.out);replace q1:=Za (Zb hbz q1.out);replace q2:=Za (Zb hbz q2.out);replace q3:=Za (Zb hbz q3.out);replace hA:=Za (hA.out.below hbz);replace hD:=Za (hD.out.below hbz);replace hB:=Za (hB.out.trans (hbz.mono sz.out));replace sz:=Za (Nat.le_trans sz.out hbz.size);clear a0 a1 a2 a3 b0 b1 b2 b3 hW0 hbz;obtain ⟨a0,a1,a2,a3,-⟩:=q0.out.four;obtain ⟨b0,b1,b2,b3,-⟩:=q1.out.four;go_wp2_with fail;refine Zar [12] (fun W'=>W'.cell? ⟨w.heap.size,0,none⟩ = some (.bool na) /\ W'.cell? ⟨w.heap.size,1,none⟩ = some (.slice A n c) /\ W'.cell? ⟨w.heap.size,2,none⟩ = some (.bool nb) /\ W'.cell? ⟨w.heap.size,3,none⟩ = some (.slice B m d) /\ W'.cell? ⟨w.heap.size + 1,0,none⟩ = some (.bool na') /\ W'.cell? ⟨w.heap.size + 1,1,none⟩ = some (.slice A' n' c') /\ W'.cell? ⟨w.heap.size + 1,2,none⟩ = some (.bool nb') /\ W'.cell? ⟨w.heap.size + 1,3,none⟩ = some (.slice B' m' d')) hmx ⟨a0,a1,a2,a3,b0,b1,b2,b3⟩ (fun _=>?_);refine Zif 6 [0,1,3,4,5,6] rfl (by kernel_rfl) ⟨a0,a1,a2,a3,b0,b1,b2,b3⟩ ?_
 iterate 6 (refine tk1 (v:=?_) rfl (Or.inl ⟨by kernel_rfl,?_⟩) ?_;rotate_left;(· intro W2 hSw;(try dsimp only at hSw);go_simp;try with_reducible rfl);try simp only [Act.put,Zf0,Zfg,Zfv,putG_a,putG_s,putG_z])
 refine tk0 ?_;refine Ze (i:=2) rfl (by kernel_rfl) (fun K hK=>?_);go_simp;refine (Zeh na nb na' nb' A B A' B' n c m d n' c' m' d' a b wz.drew hA.out hD.out hs.out).mono ?_;rintro e w1 ⟨hb1,np,P,k,q,rfl,hP⟩;replace hb1:=Zs hb1;replace hP:=Za hP;clear hs;replace q0:=Za (Zb hb1 q0.out);replace q1:=Za (Zb hb1 q1.out);replace q2:=Za (Zb hb1 q2.out);replace q3:=Za (Zb hb1 q3.out);replace hA:=Za (hA.out.below hb1);replace hD:=Za (hD.out.below hb1);replace hB:=Za (hB.out.trans (hb1.mono sz.out));replace sz:=Za (Nat.le_trans sz.out hb1.size);clear a0 a1 a2 a3 b0 b1 b2 b3;obtain ⟨a0,a1,a2,a3,-⟩:=q0.out.four;obtain ⟨b0,b1,b2,b3,-⟩:=q1.out.four;clear hb1;refine hK.out _ _ (fun _=>⟨a0,a1,a2,a3,b0,b1,b2,b3⟩) ?_;clear hK K
 try simp only [Act.put,Zf0,Zfg,Zfv]
 refine Ze (i:=7) rfl (by kernel_rfl) (fun K hK=>?_);go_simp;refine (Zhs nb na' B A' m d n' c' a.den b.num w1 hA.out.2 hD.out.1).mono ?_;rintro e w3 ⟨hb3,np',P',k',q',code,rfl,hR⟩;have hP':=Za (hR.small ht.out);have hcode:=hR.code0 ht.out;subst hcode;clear ht hR;replace hP:=Za (hP.out.below hb3);replace q0:=Za (Zb hb3 q0.out);replace q1:=Za (Zb hb3 q1.out);replace q2:=Za (Zb hb3 q2.out);replace q3:=Za (Zb hb3 q3.out);replace hA:=Za (hA.out.below hb3);replace hD:=Za (hD.out.below hb3);replace hB:=Za (hB.out.trans (hb3.mono sz.out));replace sz:=Za (Nat.le_trans sz.out hb3.size);clear a0 a1 a2 a3 b0 b1 b2 b3;obtain ⟨a0,a1,a2,a3,-⟩:=q0.out.four;obtain ⟨b0,b1,b2,b3,-⟩:=q1.out.four;clear hb3;refine hK.out _ _ (fun _=>⟨a0,a1,a2,a3,b0,b1,b2,b3⟩) ?_;clear hK K
 try simp only [Act.put,Zf0,Zfg,Zfv]
 refine Zif 2 [8,9] rfl (by kernel_rfl) ⟨a0,a1,a2,a3,b0,b1,b2,b3⟩ ?_
 iterate 2 (refine tk1 (v:=?_) rfl (Or.inl ⟨by kernel_rfl,?_⟩) ?_;rotate_left;(· intro W2 hSw;(try dsimp only at hSw);go_simp;try with_reducible rfl);try simp only [Act.put,Zf0,Zfg,Zfv,putG_a,putG_s,putG_z])
 refine tk0 ?_;refine Ze (i:=10) rfl (by kernel_rfl) (fun K hK=>?_);go_simp;refine (Zdb np' P' k' q' w3).mono ?_;rintro e w4 ⟨rfl,hb4⟩;replace hP:=Za (hP.out.below hb4);replace hP':=Za (hP'.out.below hb4);replace q0:=Za (Zb hb4 q0.out);replace q1:=Za (Zb hb4 q1.out);replace q2:=Za (Zb hb4 q2.out);replace q3:=Za (Zb hb4 q3.out);replace hA:=Za (hA.out.below hb4);replace hD:=Za (hD.out.below hb4);replace hB:=Za (hB.out.trans (hb4.mono sz.out));replace sz:=Za (Nat.le_trans sz.out hb4.size);clear a0 a1 a2 a3 b0 b1 b2 b3;obtain ⟨a0,a1,a2,a3,-⟩:=q0.out.four;obtain ⟨b0,b1,b2,b3,-⟩:=q1.out.four;clear hb4;obtain ⟨x0,x1,f0,f1⟩:=q2.out.two;refine hK.out _ _ (fun _=>⟨a0,a1,a2,a3,b0,b1,b2,b3⟩) ?_;clear hK K
 try simp only [Act.put,Zf0,Zfg,Zfv]
 refine Ze (i:=11) rfl (by kernel_rfl) (fun K hK=>?_);go_simp;obtain ⟨W5,hW5,hB5,q2',kW,kB,s5⟩:=Zax np P k q hB.out (by omega) q2.out;rw [hW5];clear hW5 x0 x1 f0 f1 a0 a1 a2 a3 b0 b1 b2 b3 hA hD;replace q0:=kB _ _ _ (by omega) q0.out;replace q1:=kB _ _ _ (by omega) q1.out;obtain ⟨a0,a1,a2,a3,-⟩:=q0.four;obtain ⟨b0,b1,b2,b3,-⟩:=q1.four;replace q3:=Za (kB _ _ _ (by omega) q3.out);replace hP:=Za (kW _ _ _ _ _ hP.out);replace hP':=Za (kW _ _ _ _ _ hP'.out);clear kW kB q2 hB q0 q1;obtain ⟨y0,y1,g0,g1⟩:=q3.out.two;refine hK.out _ _ (fun _=>⟨a0,a1,a2,a3,b0,b1,b2,b3⟩) ?_;clear hK K
 try simp only [Act.put,Zf0,Zfg,Zfv]
 refine Zu (i:=12) rfl (by kernel_rfl) (by kernel_rfl) (fun K hK=>?_);go_simp;obtain ⟨W6,hW6,hB6,q3',kW,kB,s6⟩:=Zax np' P' k' q' hB5 (by omega) q3.out;rw [hW6];clear hW6 y0 y1 g0 g1 a0 a1 a2 a3 b0 b1 b2 b3;replace q2':=kB _ _ _ (by omega) q2';replace hP:=Za (kW _ _ _ _ _ hP.out);replace hP':=Za (kW _ _ _ _ _ hP'.out);clear kW kB q3 hB5;refine hK.out _ _ ?_;clear hK K
 try simp only [Act.put,Zf0,Zfg,Zfv]
 refine Zk (by kernel_rfl) ?_ _;refine OnlyNormal.normal ?_;obtain ⟨r0,r1,-⟩:=q2'.two;obtain ⟨r2,r3,-⟩:=q3'.two;go_wp2_with fail;refine bodyPost_ret (v:=.tuple #[.agg #[.bool np,.slice P k q],.agg #[.bool np',.slice P' k' q']]) (by simp [results,Tryz.results156,go_sem,r0,r1,r2,r3]) rfl ?_;exact ⟨hB6,_,_,_,_,_,_,_,_,rfl,hP.out,hP'.out⟩
theorem Zue (na nb na' nb' : Bool) (A B A' B' : Option Addr) (n c m d n' c' m' d' : Nat) (a b : Rat) (w : World) (ha : Fr w na A n c nb B m d a) (hb : Fr w na' A' n' c' nb' B' m' d' b) (sa : Sm a) (sb : Sm b) (h0 : b ≠ 0) :
    Calls Tryz.prog 117 #[.agg #[.bool na,.slice A n c,.bool nb,.slice B m d],.agg #[.bool na',.slice A' n' c',.bool nb',.slice B' m' d']] w (Zhh w (a / b)):=by
 obtain ⟨W0,hW0,hB0,⟨q0,q1,q2⟩,s0⟩:=Zee w 45 #[.bool na,.slice A n c,.bool nb,.slice B m d] 45 #[.bool na',.slice A' n' c',.bool nb',.slice B' m' d'] 45 #[.bool false,.slice none 0 0,.bool false,.slice none 0 0];have hA:=Za (ha.below hB0);have hD:=Za (hb.below hB0)
 have hF:=fun (W : World) (h1 : Fr W na A n c nb B m d a) (h2 : Fr W na' A' n' c' nb' B' m' d' b)=>Div1_ok na nb na' nb' A B A' B' n c m d n' c' m' d' a b W h1 h2 (Zcy sa.1 sb.dn) (Zcy sa.dn sb.1) h0
 have hG:=Za (Ztw 156 na nb na' nb' A B A' B' n c m d n' c' m' d' a b _ _ W0 hA.out hD.out (Zqi a b h0) Zqb hF);rw [Zo3 a b h0] at hG;clear hF ha hb sa sb hA hD;obtain ⟨a0,a1,a2,a3,-⟩:=q0.four;obtain ⟨b0,b1,b2,b3,-⟩:=q1.four;replace q2:=Za q2;clear q0 q1;go_enter Tryz.func117,Tryz.ntmps117;go_wp2_with fail;refine hG.out.mono ?_;rintro e w1 ⟨hb1,nx,Ax,kx,cx,ny,Ay,ky,cy,rfl,hX⟩;have hB1 : Below w.heap.size w w1:=hB0.trans (hb1.mono hB0.size);have s1 : W0.heap.size <= w1.heap.size:=hb1.size;replace q2:=Za (Zb hb1 q2.out);replace hX:=Za hX;clear hb1 a0 a1 a2 a3 b0 b1 b2 b3 hB0 hG hW0;obtain ⟨c20,c21,c22,c23,f20,f21,f22,f23⟩:=q2.out.four;go_wp2_with fail;obtain ⟨W5,hW5,hB5,q2,kW,-,s5⟩:=Zad nx Ax kx cx ny Ay ky cy hB1 (by omega) q2.out;rw [hW5];obtain ⟨r0,r1,r2,r3,-⟩:=q2.four;refine bodyPost_ret (v:=.tuple #[.agg #[.bool nx,.slice Ax kx cx,.bool ny,.slice Ay ky cy],.int .i64 0]) (by simp [results,Tryz.results117,go_sem,r0,r1,r2,r3]) rfl ?_;exact ⟨hB5,_,_,_,_,_,_,_,_,rfl,kW _ _ _ _ _ hX.out.1,kW _ _ _ _ _ hX.out.2⟩
end Go.Proofs.YtigdclhagmnopaaGreat
