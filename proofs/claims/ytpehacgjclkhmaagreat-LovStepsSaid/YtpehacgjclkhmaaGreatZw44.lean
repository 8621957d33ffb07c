/- Reference: Same of fractions, rows and matrices that hold -/
import Derived.Deep.LoopGhost
import Derived.Test.YtpehacgjclkhmaaGreatZw43
set_option maxRecDepth 100000
set_option maxHeartbeats 4000000
set_option linter.unusedSimpArgs false
set_option linter.unusedVariables false
namespace Go.Proofs.YtpehacgjclkhmaaGreat
open Go.RowKit
attribute [local go_sem] Zg
theorem Zi2 (na : Bool) (a : List Nat) : Zd7 na na a a = true:=by
 unfold Zd7
 have : Za1 a a = 0:=by
  unfold Za1
  simp
 rw [this];simp
theorem Zm0 (na nb : Bool) (A B A' B' : Option Addr) (n c m d n' c' m' d' : Nat) (la lb : List Nat) (w : World) (ha : Lim w A n c la) (hb : Lim w B m d lb) (ha' : Lim w A' n' c' la) (hb' : Lim w B' m' d' lb) :
    Calls Tryz.prog 16 #[.agg #[.bool na,.slice A n c,.bool nb,.slice B m d],.agg #[.bool na,.slice A' n' c',.bool nb,.slice B' m' d']] w fun e w'=>e = .returned (.bool true) /\ Below w.heap.size w w':=by
 obtain ⟨W0,hW0,hB0,⟨q0,q1⟩,s0⟩:=Zeq w 29 #[.bool na,.slice A n c,.bool nb,.slice B m d] 29 #[.bool na,.slice A' n' c',.bool nb,.slice B' m' d'];replace ha:=Zb (ha.below hB0);replace hb:=Zb (hb.below hB0);replace ha':=Zb (ha'.below hB0);replace hb':=Zb (hb'.below hB0);obtain ⟨a0,a1,a2,a3,-⟩:=q0.four;obtain ⟨b0,b1,b2,b3,-⟩:=q1.four;have hq:=Zb (And.intro q0 q1);clear q0 q1;go_enter Tryz.func16,Tryz.ntmps16;go_wp2_with fail;refine (Zdj na na A A' n c n' c' _ _ W0 ha.out ha'.out).mono ?_;rw [Zi2];rintro e w1 ⟨rfl,hb1⟩;have hB1 : Below w.heap.size w w1:=hB0.trans (hb1.mono hB0.size);obtain ⟨q0,q1⟩:=hq.out;replace q0:=Zd hb1 q0;replace q1:=Zd hb1 q1;clear hW0 a0 a1 a2 a3 b0 b1 b2 b3 hq hB0;obtain ⟨a0,a1,a2,a3,-⟩:=q0.four;obtain ⟨b0,b1,b2,b3,-⟩:=q1.four;clear q0 q1;go_wp2_with fail;refine (Zdj nb nb B B' m d m' d' _ _ w1 (hb.out.below hb1) (hb'.out.below hb1)).mono ?_;rw [Zi2];rintro e w2 ⟨rfl,hb2⟩;have hB2 : Below w.heap.size w w2:=hB1.trans (hb2.mono hB1.size);go_wp2_with fail;go_ret;exact ⟨by simp,hB2⟩
structure DF where
 na : Bool
 la : List Nat
 nb : Bool
 lb : List Nat
def XL (w : World) (A : Option Addr) (n c : Nat) (ds : List DF) : Prop:=
 ds.length = n /\ n <= c /\ c <= maxLen /\ ∀ (k : Nat) (d : DF),ds[k]? = some d -> ∃ g o A1 n1 c1 B1 m1 d1,A = some ⟨g,o,none⟩ /\ At4 w g (o + k * 4) d.na A1 n1 c1 d.nb B1 m1 d1 /\ Lim w A1 n1 c1 d.la /\ Lim w B1 m1 d1 d.lb
section
variable {w w' : World} {A : Option Addr} {n c : Nat} {ds : List DF} {D : List (List DF)}
theorem XL.below (h : XL w A n c ds) (hb : Below w.heap.size w w') : XL w' A n c ds:=by
 obtain ⟨h1,h2,h3,h4⟩:=h;refine ⟨h1,h2,h3,fun k d hd=>?_⟩;obtain ⟨g,o,A1,n1,c1,B1,m1,d1,e,a,b,b'⟩:=h4 k d hd;exact ⟨g,o,A1,n1,c1,B1,m1,d1,e,a.below hb,b.below hb,b'.below hb⟩
def dfQ (q : Rat) : DF:=⟨decide (q.num < 0),digits q.num.natAbs,false,digits q.den⟩
theorem FL.xl {qs : List Rat} (h : FL w A n c qs) : XL w A n c (qs.map dfQ):=by
 have hl:=h.len;refine ⟨by rw [List.length_map,hl],h.cap.1,h.cap.2,fun k d hd=>?_⟩;rw [List.getElem?_map] at hd;obtain ⟨q,hq,rfl⟩:=Option.map_eq_some_iff.1 hd
 have hk : k < n:=by have:=(List.getElem?_eq_some_iff.1 hq).1;omega
 obtain ⟨g,o,na,A1,n1,c1,nb,B,m,d,e1,e2,e3⟩:=h.at_ hk;rw [hq,Option.getD_some] at e3;have h1:=e3.1.1;have h2:=e3.2.1;have h3:=e3.2.2.2;rw [Int.natAbs_natCast] at h3
 have h4 : nb = false:=by rw [h2];exact decide_eq_false (by omega)
 subst h1 h4;exact ⟨g,o,_,_,_,_,_,_,e1,e2,e3.1.2.2,h3⟩
end
theorem Zfr (A B : Option Addr) (n c d : Nat) (ds : List DF) (w : World) (ha : XL w A n c ds) (hb : XL w B n d ds) :
    Calls Tryz.prog 37 #[.slice A n c,.slice B n d] w fun e w'=>e = .returned (.bool true) /\ Below w.heap.size w w':=by
 have hmx : Tryz.prog.follows .mixedOrders = true:=by kernel_rfl
 have hl:=Zb ha.1;have hc:=ha.2.1;have hcm:=ha.2.2.1;have hd:=hb.2.1;have hdm:=hb.2.2.1;unfold maxLen at hcm hdm;replace ha:=Zb ha;replace hb:=Zb hb
 have t0 : (((n : Int)) != (n : Int)) = false:=by simp
 go_enter Tryz.func37,Tryz.ntmps37;go_wp2_with fail
 go_loopg [5] n (fun k iv wr=>∃ i : Nat,i + k = n /\ iv = .int .i64 i /\ Below w.heap.size w wr)
 case atStart=>exact ⟨0,by omega,rfl,Below.refl _ _⟩
 case round =>
  obtain ⟨i,hik,rfl,hB⟩:=hrel
  cases gk with
  | zero =>
   obtain rfl : i = n:=by omega
   have t1 : decide ((i : Int) < (i : Int)) = false:=by simp
   go_wp2_with fail;go_ret;exact ⟨rfl,hB⟩
  | succ k' =>
   obtain rfl : k' = n - (i + 1):=by omega
   have hin : i < n:=by omega
   have t1 : decide ((i : Int) < (n : Int)) = true:=decide_eq_true (by omega)
   have bi : (i : Int) < (n : Int):=by omega
   obtain ⟨x,hx⟩:=list_at (L:=ds) (i:=i) (by rw [hl.out];exact hin);obtain ⟨g,o,A1,n1,c1,B1,m1,d1,rfl,⟨r0,r1,r2,r3⟩,l1,l2⟩:=(ha.out.below hB).2.2.2 i x hx;obtain ⟨g',o',A1',n1',c1',B1',m1',d1',rfl,⟨s0,s1,s2,s3⟩,l1',l2'⟩:=(hb.out.below hB).2.2.2 i x hx;replace l1:=Zb l1;replace l2:=Zb l2;replace l1':=Zb l1';replace l2':=Zb l2';go_wp2_with fail;obtain ⟨X0,hX0⟩ : ∃ X,wr.drew = X:=⟨_,rfl⟩
   have hr1 : Below wr.heap.size wr X0:=by rw [<- hX0];exact Zh (Below.refl _ _) 1
   have hSv1 : Hid (∀ wx,Below wr.heap.size wr wx -> wx.cell? ⟨g,o + i * 4,none⟩ = some (.bool x.na) /\ wx.cell? ⟨g,o + i * 4 + 1,none⟩ = some (.slice A1 n1 c1) /\ wx.cell? ⟨g,o + i * 4 + 2,none⟩ = some (.bool x.nb) /\ wx.cell? ⟨g,o + i * 4 + 3,none⟩ = some (.slice B1 m1 d1) /\ wx.cell? ⟨g',o' + i * 4,none⟩ = some (.bool x.na) /\ wx.cell? ⟨g',o' + i * 4 + 1,none⟩ = some (.slice A1' n1' c1') /\ wx.cell? ⟨g',o' + i * 4 + 2,none⟩ = some (.bool x.nb) /\ wx.cell? ⟨g',o' + i * 4 + 3,none⟩ = some (.slice B1' m1' d1')):=Zb (fun wx hbx=>⟨Za hbx r0,Za hbx r1,Za hbx r2,Za hbx r3,Za hbx s0,Za hbx s1,Za hbx s2,Za hbx s3⟩);refine wp_heldS [] hmx hSv1 (by rw [hX0];exact hr1) (fun hxs=>?_);rw [hX0];refine Zsi 8 [0,1,2,3,4,5,6,7] rfl (by kernel_rfl) (hSv1.out _ hr1) ?_
   iterate 8 (refine tk1 (v:=?_) rfl (Or.inl ⟨by kernel_rfl,?_⟩) ?_;rotate_left;(· intro W2 hSw;(try dsimp only at hSw);go_simp;try with_reducible rfl);try simp only [Act.put,putL_a,putL_z,putL_s,putG_a,putG_s,putG_z])
   refine tk0 ?_;refine Ze (i:=8) rfl (by kernel_rfl) (fun K hK=>?_);go_simp;refine (Zm0 x.na x.nb A1 B1 A1' B1' n1 c1 m1 d1 n1' c1' m1' d1' x.la x.lb X0 (l1.out.below hr1) (l2.out.below hr1) (l1'.out.below hr1) (l2'.out.below hr1)).mono ?_;rintro e w3 ⟨rfl,hb3⟩;have hr3:=hr1.trans (hb3.mono hr1.size);have hB3:=hB.trans (hr3.mono hB.size);refine hK.out _ _ (fun _=>hSv1.out _ hr3) ?_;clear hK K
   try simp only [Act.put,putL_a,putL_z,putL_s]
   refine Zsh 1 [9] rfl (by kernel_rfl) (hSv1.out _ hr3) ?_
   (refine tk1 (v:=?_) rfl (Or.inl ⟨by kernel_rfl,?_⟩) ?_;rotate_left;(· intro W2 _;go_simp;try with_reducible rfl);try simp only [Act.put,putL_a,putL_z,putL_s,putG_a,putG_s,putG_z])
   refine tk0 ?_;refine Zj (by kernel_rfl) ?_ _;refine OnlyNormal.normal ?_;clear hxs hSv1;go_wp2_with fail
   go_roundg (n - (i + 1))
   case measure=>omega
   case rel=>exact ⟨i + 1,by omega,by go_num,hB3⟩
theorem Zgq {rs : List RX} {k : Int} (h : Zb6 rs k = 0) : Za6 rs = 0 /\ rs.length = 6 /\ 0 <= k /\ k <= 5:=by
 by_cases h1 : Za6 rs = 0
 case neg=>rw [Zlh rfl h1] at h;exact absurd h h1
 by_cases h2 : rs.length = 6
 case neg=>rw [Zmh h1 h2] at h;cases h
 by_cases h3 : 0 <= k /\ k <= 5
 case neg=>rw [Zis h1 h2 h3] at h;cases h
 exact ⟨h1,h2,h3⟩
theorem Zpv {rs : List RX} {A : Option Addr} {n c : Nat} {w : World} {k d : Int} (h : MXL w A n c rs) (hf : fewM 3 rs) (h0 : Zb6 rs k = 0) (hd1 : -9223372036854775808 <= d) (hd2 : d <= 9223372036854775807) : Zmr (Zcm (Zp (qM rs)) k.toNat) d:=by
 obtain ⟨hE,hl,hk0,hk5⟩:=Zgq h0;obtain ⟨hcV,hcS,hcP⟩:=Zng hE;have hS:=hcV.small h hf
 have hd : SmN 2 1 (d : Rat):=SmN.int (by have e : pw 2 = 18446744073709551616:=by decide
                                          omega)
 have hne : Zp (qM rs) k.toNat k.toNat ≠ 0:=by
  have h1:=Zge (A:=Zp (qM rs)) (n:=rs.length) (fun i k hi hk=>symB_iff.1 hcS i k (by unfold qM;rw [List.length_map];exact hi) (by unfold qM;rw [List.length_map];exact hk)) hcP (k:=k.toNat) (by omega) k.toNat 0 (by omega);intro e;have e2 : Zab (Zp (qM rs)) 0 k.toNat k.toNat = 0:=e;rw [e2] at h1;exact absurd h1 (by decide)
 refine ⟨hd.sm (by decide) (by decide),fun i=>?_⟩
 by_cases hi : i < 6
 ·have e : (Zcm (Zp (qM rs)) k.toNat)[i]?.getD 0 = Zp (qM rs) i k.toNat / Zp (qM rs) k.toNat k.toNat:=by
    unfold Zcm;rw [List.getElem?_map,List.getElem?_range hi];rfl
  rw [e]
  have hN : ∀ i j,SmN 4 4 (Zp (qM rs) i j):=fun i j=>⟨Nat.lt_of_le_of_lt (hS i j).1 (Zfu (by decide)),Nat.lt_of_le_of_lt (hS i j).2 (Zfu (by decide))⟩
  have h1:=SmN.divN (hN i k.toNat) (hN k.toNat k.toNat) hne;exact ⟨h1.sm (by decide) (by decide),(h1.mulN hd).sm (by decide) (by decide)⟩
 ·have e : (Zcm (Zp (qM rs)) k.toNat)[i]?.getD 0 = 0:=by
    rw [List.getElem?_eq_none (by rw [Zhr];omega)];rfl
  rw [e,Rat.zero_mul];have h1:=(SmN.zeroC 0 0).sm (by decide) (by decide);exact ⟨h1,h1⟩
open Go.RowKit Go.Shelf
attribute [local go_sem] Oper.semAt_some
theorem Zfq {W W' : World} (hb : Below W.heap.size W W') : W.grownBy W' none:=⟨hb.os,hb.tape,hb.output,hb.size,fun k hk _=>hb.block k hk⟩
def Zam (N : Nat) (step : Int) (k : Nat) : Int:=((k : Int) - N) * step
noncomputable def encStep (s : St) (dir : List Rat) (N : Nat) (step : Int) (k : Nat) : Array Value:=#[.agg (movV s dir (Zam N step k)).cells,.int .i64 (movE s dir (Zam N step k))]
theorem Zhv {N : Nat} {step : Int} {k : Nat} (hN : N <= 20) (h1 : 1 <= step) (h2 : step <= 1125899906842624) (hk : k <= 2 * N) : -22517998136852480 <= Zam N step k /\ Zam N step k <= 22517998136852480:=by
 unfold Zam
 have ha : -20 <= (k : Int) - N /\ (k : Int) - N <= 20:=by omega
 obtain ⟨a,e⟩ : ∃ a,(k : Int) - N = a:=⟨_,rfl⟩;rw [e] at ha ⊢
 constructor
 ·have:=Int.mul_le_mul_of_nonneg_right ha.1 (show (0 : Int) <= step by omega)
  omega
 ·have:=Int.mul_le_mul_of_nonneg_right ha.2 (show (0 : Int) <= step by omega)
  omega
def StpS (w2 : World) (Bn Bs Bd Bp N : Nat) (A : Option Addr) (c : Nat) (s : St) (step : Int) (W : World) : Prop:=
 (W.cell? ⟨Bn,0,none⟩ = some (.int .i64 N) /\ Blk W Bs 46 s.cells /\ W.cell? ⟨Bd,0,none⟩ = some (.slice A 6 c) /\ W.cell? ⟨Bp,0,none⟩ = some (.int .i64 step)) /\ Below w2.heap.size w2 W
section
variable {w2 : World} {Bn Bs Bd Bp N : Nat} {A : Option Addr} {c : Nat} {s : St} {step : Int} {W W' W2 : World}
theorem StpS.below (h : StpS w2 Bn Bs Bd Bp N A c s step W) (hb : Below W.heap.size W W') : StpS w2 Bn Bs Bd Bp N A c s step W':=
 ⟨⟨Za hb h.1.1,Zd hb h.1.2.1,Za hb h.1.2.2.1,Za hb h.1.2.2.2⟩,h.2.trans (hb.mono h.2.size)⟩
def KpS (w2 : World) (Bn Bs Bd Bp N : Nat) (A : Option Addr) (c : Nat) (s : St) (step : Int) (W W' : World) : Prop:=StpS w2 Bn Bs Bd Bp N A c s step W -> StpS w2 Bn Bs Bd Bp N A c s step W'
theorem KpS.trans (h : KpS w2 Bn Bs Bd Bp N A c s step W W') (k : KpS w2 Bn Bs Bd Bp N A c s step W' W2) : KpS w2 Bn Bs Bd Bp N A c s step W W2:=fun x=>k (h x)
theorem KpS.put (W : World) (lp : Nat) (o o' : Obj) (hl : w2.heap.size <= lp) (ho : W.heap[lp]? = some o) (hc : o.isCells = false) : KpS w2 Bn Bs Bd Bp N A c s step W (W.putObj lp o'):=
 fun h=>⟨⟨cell_kept h.1.1 (grownBy_putObj' W lp o') (fun r e=>by cases e;exact ⟨o,ho,hc⟩),Za5 h.1.2.1 (grownBy_putObj' W lp o') (fun r e=>by cases e;exact ⟨o,ho,hc⟩),cell_kept h.1.2.2.1 (grownBy_putObj' W lp o') (fun r e=>by cases e;exact ⟨o,ho,hc⟩),cell_kept h.1.2.2.2 (grownBy_putObj' W lp o') (fun r e=>by cases e;exact ⟨o,ho,hc⟩)⟩,
  h.2.grown (grownBy_putObj' W lp o') h.2.size (fun k e=>by cases e;exact hl)⟩
end
theorem Zp2 (w2 : World) (d0 : Nat) (hd : 1 <= d0) (lp Bn Bs Bd Bp N : Nat) (A : Option Addr) (c : Nat) (s : St) (dir : List Rat) (step : Int) (J Jx : List Nat -> World -> Prop) (hN : N <= 20) (hs1 : 1 <= step) (hs2 : step <= 1125899906842624)
    (hFL : FL w2 A 6 c dir) (hS : ∀ k,k <= 2 * N -> Zmr dir (Zam N step k))
    (hY : ∀ pre x W,J pre W -> pre.length < 2 * N + 1 -> YieldAt Fence.wide (d0 - 1) Tryz.prog lp (encStep s dir N step x) W fun e W' =>
     (e = .returned (.bool true) /\ J (pre ++ [x]) W' /\ KpS w2 Bn Bs Bd Bp N A c s step W W') \/ (e = .returned (.bool false) /\ Jx (pre ++ [x]) W'))
    (W : World) (hJ : AbidesFrom W.heap.size J) (hP : StpS w2 Bn Bs Bd Bp N A c s step W) (h0 : J [] W) :
    CallsIn Fence.wide d0 Tryz.prog 117 #[.func (.yield lp) #[] #[],.pointer (some ⟨Bn,0,none⟩),.pointer (some ⟨Bs,0,none⟩),.pointer (some ⟨Bd,0,none⟩),.pointer (some ⟨Bp,0,none⟩)] W fun e W'=>(∃ v,e = .returned v) /\
     ((∃ ys,ys = List.range (2 * N + 1) /\ J ys W') \/ (∃ pre,(∃ k,k <= 2 * N + 1 /\ pre = List.range k) /\ Jx pre W')):=by
 have hcap:=hFL.cap;unfold maxLen at hcap;refine callsIn_of_wp Tryz.func117 rfl trivial ?_ rfl;simp only [Tryz.ntmps117,List.size_toArray,List.length_cons,List.length_nil,Nat.reduceAdd,Nat.reduceSub,Array.replicate_succ,Array.replicate_zero,List.push_toArray,List.append_toArray,List.nil_append,List.cons_append];have cn1:=hP.1.1
 gi_wp2
 gi_loopw [6] (fun j wr=>∃ k : Nat,k <= 2 * N + 1 /\ j = .int .i64 ((k : Int) - N) /\ J (List.range k) wr /\ Hid (StpS w2 Bn Bs Bd Bp N A c s step wr))
  (fun j _=>(((N : Int) + 1) - intOf j).toNat)
 case atStart=>exact ⟨0,Nat.zero_le _,by go_num,h0,Zb hP⟩
 case round =>
  obtain ⟨k,hk,rfl,hJs,hWr⟩:=hrel;have cn2:=hWr.out.1.1
  by_cases hlt : k < 2 * N + 1
  ·have t1 : decide ((k : Int) - N <= N) = true:=decide_eq_true (by omega)
   have t1' : (k : Int) - N <= N:=by omega
   obtain ⟨x0,x1,x2,x3,x4,x5,x6⟩:=Za2 hWr.out.1.2.1;have y1:=hWr.out.1.2.2.1;have y2:=hWr.out.1.2.2.2;have hDr : FL wr A 6 c dir:=hFL.below hWr.out.2;obtain ⟨hb1,hb2⟩:=Zhv (k:=k) hN hs1 hs2 (by omega);have hSk:=hS k (by omega);obtain ⟨D,hfk⟩ : ∃ D,Zam N step k = D:=⟨_,rfl⟩;have hmul : ((k : Int) - N) * step = D:=hfk;rw [hfk] at hb1 hb2 hSk;have hwD : IntKind.i64.wrap D = D:=IntWalk.i64_in _ (by omega);have hwD2 : wrap64 D = D:=IntWalk.wrap64_in _ (by omega);replace hSk:=Zb hSk;replace hDr:=Zb hDr
   gi_wp2
   refine ⟨trivial,?_⟩;refine (callsIn_wide.2 (move_ok s A c dir D wr hDr.out hSk.out (by omega) (by omega))).mono ?_;rintro e w3 ⟨rfl,hb3⟩;have hW3:=Zb (hWr.out.below hb3);have hJ3 : J (List.range k) w3:=hJ _ _ _ none hJs (Zfq hb3) (fun r e=>by cases e);obtain ⟨fn,tmps,assign,body,hy,hR⟩:=hY (List.range k) k w3 hJ3 (by rw [List.length_range];exact hlt);dsimp only [encStep] at hy;rw [hfk] at hy;clear x0 x1 x2 x3 x4 x5 x6 y1 y2 cn2 hWr
   gi_wp2
   refine hR.mono ?_;rintro e W4 (⟨rfl,hJ4,hk4⟩ | ⟨rfl,hJx4⟩)
   ·gi_wp2
    go_roundw
    case rel=>exact ⟨k + 1,by omega,by go_num,by rw [List.range_succ];exact hJ4,Zb (hk4 hW3.out)⟩
    case measure=>simp [intOf];omega
   ·gi_wp2
    refine bodyPost_ret (results_none rfl _ _ _) rfl ?_;exact ⟨⟨_,rfl⟩,.inr ⟨_,⟨k + 1,by omega,List.range_succ.symm⟩,hJx4⟩⟩
  ·obtain rfl : k = 2 * N + 1:=by omega
   have t1 : decide (((2 * N + 1 : Nat) : Int) - N <= N) = false:=decide_eq_false (by omega)
   gi_wp2
   go_end0
   exact ⟨⟨_,rfl⟩,.inl ⟨_,rfl,hJs⟩⟩
theorem Zlq (w2 : World) (d0 : Nat) (hd : 1 <= d0) (Bn Bs Bd Bp N : Nat) (A : Option Addr) (c : Nat) (s : St) (dir : List Rat) (step : Int) (hN : N <= 20) (hs1 : 1 <= step) (hs2 : step <= 1125899906842624)
    (hFL : FL w2 A 6 c dir) (hS : ∀ k,k <= 2 * N -> Zmr dir (Zam N step k)) (w : World) (hP : StpS w2 Bn Bs Bd Bp N A c s step w) :
    SeqStopsK Fence.wide d0 Tryz.prog 117 #[.pointer (some ⟨Bn,0,none⟩),.pointer (some ⟨Bs,0,none⟩),.pointer (some ⟨Bd,0,none⟩),.pointer (some ⟨Bp,0,none⟩)] (encStep s dir N step) (KpS w2 Bn Bs Bd Bp N A c s step) (fun ys=>ys = List.range (2 * N + 1)) (fun pre=>∃ k,k <= 2 * N + 1 /\ pre = List.range k) (2 * N + 1) w:=fun lp J Jx W hW hJ _ hY h0 =>
 Zp2 w2 d0 hd lp Bn Bs Bd Bp N A c s dir step J Jx hN hs1 hs2 hFL hS hY W hJ (hP.below hW) h0
theorem Zqc (s : St) (A : Option Addr) (n c : Nat) (step k : Int) (w : World) :
    Calls Tryz.prog 68 #[.agg #[.int .i64 s.t,.int .i64 s.p0,.int .i64 s.p1,.int .i64 s.p2,.int .i64 s.v0,.int .i64 s.v1,.int .i64 s.v2],.slice A n c,.int .i64 step,.int .i64 k] w fun e w'=>e = .returned (.func (.func 117) #[] #[.pointer (some ⟨w.heap.size + 1 + 1 + 1,0,none⟩),.pointer (some ⟨w.heap.size,0,none⟩),.pointer (some ⟨w.heap.size + 1,0,none⟩),.pointer (some ⟨w.heap.size + 1 + 1,0,none⟩)]) /\ w' = (((w.alloc (.cells #[.int .i64 s.t,.int .i64 s.p0,.int .i64 s.p1,.int .i64 s.p2,.int .i64 s.v0,.int .i64 s.v1,.int .i64 s.v2] 46)).alloc (.cells #[.slice A n c] 23)).alloc (.cells #[.int .i64 step] 2)).alloc (.cells #[.int .i64 k] 3):=by
 have hmf : ∀ (fn : Fn) (first cap : Array Value) (w : World),(Instr.makeFunc fn first cap).run Tryz.prog w = .ok (.func fn first cap) w:=fun _ _ _ _=>rfl
 go_enter Tryz.func68,Tryz.ntmps68;go_wp2_with fail;go_ret;exact ⟨rfl,rfl⟩
def SL (w : World) (A : Option Addr) (n c : Nat) (ss : List St) : Prop:=
 ss.length = n /\ n <= c /\ c <= maxLen /\ ∀ (k : Nat) (s : St),ss[k]? = some s -> ∃ g o,A = some ⟨g,o,none⟩ /\ w.cell? ⟨g,o + k * 7,none⟩ = some (.int .i64 s.t) /\ w.cell? ⟨g,o + k * 7 + 1,none⟩ = some (.int .i64 s.p0) /\ w.cell? ⟨g,o + k * 7 + 2,none⟩ = some (.int .i64 s.p1) /\ w.cell? ⟨g,o + k * 7 + 3,none⟩ = some (.int .i64 s.p2) /\ w.cell? ⟨g,o + k * 7 + 4,none⟩ = some (.int .i64 s.v0) /\ w.cell? ⟨g,o + k * 7 + 5,none⟩ = some (.int .i64 s.v1) /\ w.cell? ⟨g,o + k * 7 + 6,none⟩ = some (.int .i64 s.v2)
theorem SL.below {w w' : World} {A : Option Addr} {n c : Nat} {ss : List St} (h : SL w A n c ss) (hb : Below w.heap.size w w') : SL w' A n c ss:=by
 obtain ⟨h1,h2,h3,h4⟩:=h;refine ⟨h1,h2,h3,fun k s hs=>?_⟩;obtain ⟨g,o,e,c0,c1,c2,c3,c4,c5,c6⟩:=h4 k s hs;exact ⟨g,o,e,Za hb c0,Za hb c1,Za hb c2,Za hb c3,Za hb c4,Za hb c5,Za hb c6⟩
theorem SL.at_ {w : World} {A : Option Addr} {n c : Nat} {ss : List St} (h : SL w A n c ss) {k : Nat} (hk : k < n) : ∃ g o s,A = some ⟨g,o,none⟩ /\ ss[k]? = some s /\ w.cell? ⟨g,o + k * 7,none⟩ = some (.int .i64 s.t) /\ w.cell? ⟨g,o + k * 7 + 1,none⟩ = some (.int .i64 s.p0) /\ w.cell? ⟨g,o + k * 7 + 2,none⟩ = some (.int .i64 s.p1) /\ w.cell? ⟨g,o + k * 7 + 3,none⟩ = some (.int .i64 s.p2) /\ w.cell? ⟨g,o + k * 7 + 4,none⟩ = some (.int .i64 s.v0) /\ w.cell? ⟨g,o + k * 7 + 5,none⟩ = some (.int .i64 s.v1) /\ w.cell? ⟨g,o + k * 7 + 6,none⟩ = some (.int .i64 s.v2):=by
 have hs:=List.getElem?_eq_getElem (l:=ss) (i:=k) (by rw [h.1];exact hk);obtain ⟨g,o,e,hc⟩:=h.2.2.2 k _ hs;exact ⟨g,o,_,e,hs,hc⟩
theorem St.ext' {a b : St} (h0 : a.t = b.t) (h1 : a.p0 = b.p0) (h2 : a.p1 = b.p1) (h3 : a.p2 = b.p2) (h4 : a.v0 = b.v0) (h5 : a.v1 = b.v1) (h6 : a.v2 = b.v2) : a = b:=by
 cases a;cases b;simp only at h0 h1 h2 h3 h4 h5 h6;subst h0 h1 h2 h3 h4 h5 h6;rfl
theorem Zk8 (A B : Option Addr) (n m c d : Nat) (xs ys : List St) (w : World) (ha : SL w A n c xs) (hb : SL w B m d ys) :
    Calls Tryz.prog 36 #[.slice A n c,.slice B m d] w fun e w'=>∃ b,e = .returned (.bool b) /\ (b = true ↔ xs = ys) /\ Below w.heap.size w w':=by
 have hmx : Tryz.prog.follows .mixedOrders = true:=by kernel_rfl
 have hla:=Zb ha.1;have hlb:=Zb hb.1;have hnc:=ha.2.1;have hcm:=ha.2.2.1;have hmd:=hb.2.1;have hdm:=hb.2.2.1;unfold maxLen at hcm hdm;replace ha:=Zb ha;replace hb:=Zb hb
 by_cases hnm : n = m
 case neg =>
  have t1 : ((n : Int) == (m : Int)) = false:=by simp;omega
  have t1' : ((n : Int) != (m : Int)) = true:=by rw [bne,t1];rfl
  have t1'' : decide (n = m) = false:=by simpa using hnm
  have hne : Hid (xs ≠ ys):=Zb (fun e=>hnm (by rw [<- hla.out,<- hlb.out,e]));replace hnm:=Zb hnm;go_enter Tryz.func36,Tryz.ntmps36;go_wp2_with fail;go_ret;exact ⟨false,rfl,⟨fun h=>(by cases h),fun e=>absurd e hne.out⟩,Below.refl _ _⟩
 subst hnm;go_enter Tryz.func36,Tryz.ntmps36;go_wp2_with fail
 go_loopg [5] n (fun k iv wr=>∃ i : Nat,i + k = n /\ iv = .int .i64 i /\ Hid (∀ j,j < i -> xs[j]? = ys[j]?) /\ Below w.heap.size w wr)
 case atStart=>exact ⟨0,by omega,rfl,Zb (fun j hj=>by omega),Below.refl _ _⟩
 case round =>
  obtain ⟨wi,rfl⟩ : ∃ x : World,x = wr:=⟨_,rfl⟩;obtain ⟨i,hik,rfl,hE,hBi⟩:=hrel
  cases gk with
  | zero =>
   obtain rfl : i = n:=by omega
   have t3 : decide ((i : Int) < (i : Int)) = false:=by simp
   have heq : Hid (xs = ys):=Zb (List.ext_getElem? fun j=>by
    by_cases hj : j < i
    ·exact hE.out j hj
    ·rw [List.getElem?_eq_none (by rw [hla.out];omega),List.getElem?_eq_none (by rw [hlb.out];omega)])
   go_wp2_with fail;go_ret;exact ⟨true,rfl,⟨fun _=>heq.out,fun _=>rfl⟩,hBi⟩
  | succ k' =>
   obtain rfl : k' = n - (i + 1):=by omega
   have hin : i < n:=by omega
   have t3 : decide ((i : Int) < (n : Int)) = true:=decide_eq_true (by omega)
   have bi : (i : Int) < (n : Int):=by omega
   obtain ⟨g1,o1,a,rfl,hea,x0,x1,x2,x3,x4,x5,x6⟩:=(ha.out.below hBi).at_ hin;obtain ⟨g2,o2,b,rfl,heb,y0,y1,y2,y3,y4,y5,y6⟩:=(hb.out.below hBi).at_ hin;have hr : Below wi.heap.size wi wi.drew:=Zh (Below.refl _ _) 1;have hSv : (wi.drew.cell? ⟨g1,o1 + i * 7,none⟩ = some (.int .i64 a.t) /\ wi.drew.cell? ⟨g1,o1 + i * 7 + 1,none⟩ = some (.int .i64 a.p0) /\ wi.drew.cell? ⟨g1,o1 + i * 7 + 2,none⟩ = some (.int .i64 a.p1) /\ wi.drew.cell? ⟨g1,o1 + i * 7 + 3,none⟩ = some (.int .i64 a.p2) /\ wi.drew.cell? ⟨g1,o1 + i * 7 + 4,none⟩ = some (.int .i64 a.v0) /\ wi.drew.cell? ⟨g1,o1 + i * 7 + 5,none⟩ = some (.int .i64 a.v1) /\ wi.drew.cell? ⟨g1,o1 + i * 7 + 6,none⟩ = some (.int .i64 a.v2)) /\ (wi.drew.cell? ⟨g2,o2 + i * 7,none⟩ = some (.int .i64 b.t) /\ wi.drew.cell? ⟨g2,o2 + i * 7 + 1,none⟩ = some (.int .i64 b.p0) /\ wi.drew.cell? ⟨g2,o2 + i * 7 + 2,none⟩ = some (.int .i64 b.p1) /\ wi.drew.cell? ⟨g2,o2 + i * 7 + 3,none⟩ = some (.int .i64 b.p2) /\ wi.drew.cell? ⟨g2,o2 + i * 7 + 4,none⟩ = some (.int .i64 b.v0) /\ wi.drew.cell? ⟨g2,o2 + i * 7 + 5,none⟩ = some (.int .i64 b.v1) /\ wi.drew.cell? ⟨g2,o2 + i * 7 + 6,none⟩ = some (.int .i64 b.v2)):=⟨⟨Za hr x0,Za hr x1,Za hr x2,Za hr x3,Za hr x4,Za hr x5,Za hr x6⟩,⟨Za hr y0,Za hr y1,Za hr y2,Za hr y3,Za hr y4,Za hr y5,Za hr y6⟩⟩;have hBr:=hBi.trans (hr.mono hBi.size);replace hea:=Zb hea;replace heb:=Zb heb
   by_cases hab : a = b
   case pos =>
    subst hab
    have hEq : ∀ w,(Op.equalIn 10000 46 (.agg #[.int .i64 a.t,.int .i64 a.p0,.int .i64 a.p1,.int .i64 a.p2,.int .i64 a.v0,.int .i64 a.v1,.int .i64 a.v2]) (.agg #[.int .i64 a.t,.int .i64 a.p0,.int .i64 a.p1,.int .i64 a.p2,.int .i64 a.v0,.int .i64 a.v1,.int .i64 a.v2])).run Tryz.prog w = .ok true w:=fun w=>by rw [Zid];simp
    have hE2 : Hid (∀ j,j < i + 1 -> xs[j]? = ys[j]?):=Zb (fun j hj=>by
     by_cases e : j = i
     ·subst e;rw [hea.out,heb.out]
     ·exact hE.out j (by omega))
    go_wp2_with fail;refine Z1 [] (fun wx=>(wx.cell? ⟨g1,o1 + i * 7,none⟩ = some (.int .i64 a.t) /\ wx.cell? ⟨g1,o1 + i * 7 + 1,none⟩ = some (.int .i64 a.p0) /\ wx.cell? ⟨g1,o1 + i * 7 + 2,none⟩ = some (.int .i64 a.p1) /\ wx.cell? ⟨g1,o1 + i * 7 + 3,none⟩ = some (.int .i64 a.p2) /\ wx.cell? ⟨g1,o1 + i * 7 + 4,none⟩ = some (.int .i64 a.v0) /\ wx.cell? ⟨g1,o1 + i * 7 + 5,none⟩ = some (.int .i64 a.v1) /\ wx.cell? ⟨g1,o1 + i * 7 + 6,none⟩ = some (.int .i64 a.v2)) /\ (wx.cell? ⟨g2,o2 + i * 7,none⟩ = some (.int .i64 a.t) /\ wx.cell? ⟨g2,o2 + i * 7 + 1,none⟩ = some (.int .i64 a.p0) /\ wx.cell? ⟨g2,o2 + i * 7 + 2,none⟩ = some (.int .i64 a.p1) /\ wx.cell? ⟨g2,o2 + i * 7 + 3,none⟩ = some (.int .i64 a.p2) /\ wx.cell? ⟨g2,o2 + i * 7 + 4,none⟩ = some (.int .i64 a.v0) /\ wx.cell? ⟨g2,o2 + i * 7 + 5,none⟩ = some (.int .i64 a.v1) /\ wx.cell? ⟨g2,o2 + i * 7 + 6,none⟩ = some (.int .i64 a.v2))) hmx hSv (fun hxs=>?_);refine Zsi 9 [0,1,2,3,4,5,6,7,8] rfl (by kernel_rfl) hSv ?_
    iterate 9 (refine tk1 (v:=?_) rfl (Or.inl ⟨by kernel_rfl,?_⟩) ?_;rotate_left;(· intro W2 hSw;(try dsimp only at hSw);go_simp;try with_reducible rfl);try simp only [Act.put,putL_a,putL_z,putL_s,putG_a,putG_s,putG_z])
    refine tk0 ?_;refine Zj (by kernel_rfl) ?_ _;refine OnlyNormal.normal ?_;go_wp2_with fail
    go_roundg (n - (i + 1))
    case measure=>omega
    case rel=>exact ⟨i + 1,by omega,by go_num,hE2,hBr⟩
   case neg =>
    have hEq : ∀ w,(Op.equalIn 10000 46 (.agg #[.int .i64 a.t,.int .i64 a.p0,.int .i64 a.p1,.int .i64 a.p2,.int .i64 a.v0,.int .i64 a.v1,.int .i64 a.v2]) (.agg #[.int .i64 b.t,.int .i64 b.p0,.int .i64 b.p1,.int .i64 b.p2,.int .i64 b.v0,.int .i64 b.v1,.int .i64 b.v2])).run Tryz.prog w = .ok false w:=fun w=>by
     rw [Zid]
     congr 1
     rw [Bool.eq_false_iff];intro h;simp only [Bool.and_eq_true,decide_eq_true_eq] at h;exact hab (St.ext' h.1.1 h.1.2.1.1 h.1.2.1.2 h.1.2.2 h.2.1.1 h.2.1.2 h.2.2)
    have hne : Hid (xs ≠ ys):=Zb (fun e=>hab (by
     have h1:=hea.out;rw [e,heb.out] at h1
     exact (Option.some.inj h1).symm))
    replace hab:=Zb hab;go_wp2_with fail;refine Z1 [] (fun wx=>(wx.cell? ⟨g1,o1 + i * 7,none⟩ = some (.int .i64 a.t) /\ wx.cell? ⟨g1,o1 + i * 7 + 1,none⟩ = some (.int .i64 a.p0) /\ wx.cell? ⟨g1,o1 + i * 7 + 2,none⟩ = some (.int .i64 a.p1) /\ wx.cell? ⟨g1,o1 + i * 7 + 3,none⟩ = some (.int .i64 a.p2) /\ wx.cell? ⟨g1,o1 + i * 7 + 4,none⟩ = some (.int .i64 a.v0) /\ wx.cell? ⟨g1,o1 + i * 7 + 5,none⟩ = some (.int .i64 a.v1) /\ wx.cell? ⟨g1,o1 + i * 7 + 6,none⟩ = some (.int .i64 a.v2)) /\ (wx.cell? ⟨g2,o2 + i * 7,none⟩ = some (.int .i64 b.t) /\ wx.cell? ⟨g2,o2 + i * 7 + 1,none⟩ = some (.int .i64 b.p0) /\ wx.cell? ⟨g2,o2 + i * 7 + 2,none⟩ = some (.int .i64 b.p1) /\ wx.cell? ⟨g2,o2 + i * 7 + 3,none⟩ = some (.int .i64 b.p2) /\ wx.cell? ⟨g2,o2 + i * 7 + 4,none⟩ = some (.int .i64 b.v0) /\ wx.cell? ⟨g2,o2 + i * 7 + 5,none⟩ = some (.int .i64 b.v1) /\ wx.cell? ⟨g2,o2 + i * 7 + 6,none⟩ = some (.int .i64 b.v2))) hmx hSv (fun hxs=>?_);refine Zsi 9 [0,1,2,3,4,5,6,7,8] rfl (by kernel_rfl) hSv ?_
    iterate 9 (refine tk1 (v:=?_) rfl (Or.inl ⟨by kernel_rfl,?_⟩) ?_;rotate_left;(· intro W2 hSw;(try dsimp only at hSw);go_simp;try with_reducible rfl);try simp only [Act.put,putL_a,putL_z,putL_s,putG_a,putG_s,putG_z])
    refine tk0 ?_;refine Zj (by kernel_rfl) ?_ _;refine OnlyNormal.normal ?_;go_wp2_with fail;go_ret;exact ⟨false,rfl,⟨fun h=>(by cases h),fun e=>absurd e hne.out⟩,hBr⟩
end Go.Proofs.YtpehacgjclkhmaaGreat
