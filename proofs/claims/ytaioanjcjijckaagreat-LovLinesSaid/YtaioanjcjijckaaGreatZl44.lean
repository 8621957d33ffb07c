/- Reference: Same of fractions, rows and matrices that hold -/
import Derived.Deep.LoopGhost
import Derived.RangeFuncBox
import Derived.Test.YtaioanjcjijckaaGreatZl43
set_option maxRecDepth 100000
set_option maxHeartbeats 8000000
set_option linter.unusedSimpArgs false
set_option linter.unusedVariables false
namespace Go.Proofs.YtaioanjcjijckaaGreat
open Go.RowKit
attribute [local go_sem] Zg
theorem Zjr (na : Bool) (a : List Nat) : Zd2 na na a a = true:=by
 unfold Zd2
 have : Za8 a a = 0:=by
  unfold Za8
  simp
 rw [this];simp
theorem Zoi (na nb : Bool) (A B A' B' : Option Addr) (n c m d n' c' m' d' : Nat) (la lb : List Nat) (w : World) (ha : Lim w A n c la) (hb : Lim w B m d lb) (ha' : Lim w A' n' c' la) (hb' : Lim w B' m' d' lb) :
    Calls Tryz.prog 18 #[.agg #[.bool na,.slice A n c,.bool nb,.slice B m d],.agg #[.bool na,.slice A' n' c',.bool nb,.slice B' m' d']] w fun e w'=>e = .returned (.bool true) /\ Below w.heap.size w w':=by
 obtain ⟨W0,hW0,hB0,⟨q0,q1⟩,s0⟩:=Zdm w 29 #[.bool na,.slice A n c,.bool nb,.slice B m d] 29 #[.bool na,.slice A' n' c',.bool nb,.slice B' m' d'];replace ha:=Za (ha.below hB0);replace hb:=Za (hb.below hB0);replace ha':=Za (ha'.below hB0);replace hb':=Za (hb'.below hB0);obtain ⟨a0,a1,a2,a3,-⟩:=q0.four;obtain ⟨b0,b1,b2,b3,-⟩:=q1.four;have hq:=Za (And.intro q0 q1);clear q0 q1;go_enter Tryz.func18,Tryz.ntmps18;go_wp2_with fail;refine (Zdc na na A A' n c n' c' _ _ W0 ha.out ha'.out).mono ?_;rw [Zjr];rintro e w1 ⟨rfl,hb1⟩;have hB1 : Below w.heap.size w w1:=hB0.trans (hb1.mono hB0.size);obtain ⟨q0,q1⟩:=hq.out;replace q0:=Zb hb1 q0;replace q1:=Zb hb1 q1;clear hW0 a0 a1 a2 a3 b0 b1 b2 b3 hq hB0;obtain ⟨a0,a1,a2,a3,-⟩:=q0.four;obtain ⟨b0,b1,b2,b3,-⟩:=q1.four;clear q0 q1;go_wp2_with fail;refine (Zdc nb nb B B' m d m' d' _ _ w1 (hb.out.below hb1) (hb'.out.below hb1)).mono ?_;rw [Zjr];rintro e w2 ⟨rfl,hb2⟩;have hB2 : Below w.heap.size w w2:=hB1.trans (hb2.mono hB1.size);go_wp2_with fail;go_ret;exact ⟨by simp,hB2⟩
structure DF where
 na : Bool
 la : List Nat
 nb : Bool
 lb : List Nat
def XL (w : World) (A : Option Addr) (n c : Nat) (ds : List DF) : Prop:=
 ds.length = n /\ n <= c /\ c <= maxLen /\ ∀ (k : Nat) (d : DF),ds[k]? = some d -> ∃ g o A1 n1 c1 B1 m1 d1,A = some ⟨g,o,none⟩ /\ At4 w g (o + k * 4) d.na A1 n1 c1 d.nb B1 m1 d1 /\ Lim w A1 n1 c1 d.la /\ Lim w B1 m1 d1 d.lb
section
variable {w w' : World} {A : Option Addr} {n c : Nat} {ds : List DF} {D : List (List DF)}
theorem XL.below (h : XL w A n c ds) (hb : Below w.heap.size w w') : XL w' A n c ds:=by
 obtain ⟨h1,h2,h3,h4⟩:=h;refine ⟨h1,h2,h3,fun k d hd=>?_⟩;obtain ⟨g,o,A1,n1,c1,B1,m1,d1,e,a,b,b'⟩:=h4 k d hd;exact ⟨g,o,A1,n1,c1,B1,m1,d1,e,a.below hb,b.below hb,b'.below hb⟩
def dfQ (q : Rat) : DF:=⟨decide (q.num < 0),digits q.num.natAbs,false,digits q.den⟩
theorem FL.xl {qs : List Rat} (h : FL w A n c qs) : XL w A n c (qs.map dfQ):=by
 have hl:=h.len;refine ⟨by rw [List.length_map,hl],h.cap.1,h.cap.2,fun k d hd=>?_⟩;rw [List.getElem?_map] at hd;obtain ⟨q,hq,rfl⟩:=Option.map_eq_some_iff.1 hd
 have hk : k < n:=by have:=(List.getElem?_eq_some_iff.1 hq).1;omega
 obtain ⟨g,o,na,A1,n1,c1,nb,B,m,d,e1,e2,e3⟩:=h.at_ hk;rw [hq,Option.getD_some] at e3;have h1:=e3.1.1;have h2:=e3.2.1;have h3:=e3.2.2.2;rw [Int.natAbs_natCast] at h3
 have h4 : nb = false:=by rw [h2];exact decide_eq_false (by omega)
 subst h1 h4;exact ⟨g,o,_,_,_,_,_,_,e1,e2,e3.1.2.2,h3⟩
theorem XL.nil (w : World) : XL w none 0 0 []:=⟨rfl,Nat.le_refl _,Nat.zero_le _,fun k d hd=>(by cases hd)⟩
end
theorem Zlf (A B : Option Addr) (n c d : Nat) (ds : List DF) (w : World) (ha : XL w A n c ds) (hb : XL w B n d ds) :
    Calls Tryz.prog 28 #[.slice A n c,.slice B n d] w fun e w'=>e = .returned (.bool true) /\ Below w.heap.size w w':=by
 have hmx : Tryz.prog.follows .mixedOrders = true:=by kernel_rfl
 have hl:=Za ha.1;have hc:=ha.2.1;have hcm:=ha.2.2.1;have hd:=hb.2.1;have hdm:=hb.2.2.1;unfold maxLen at hcm hdm;replace ha:=Za ha;replace hb:=Za hb
 have t0 : (((n : Int)) != (n : Int)) = false:=by simp
 go_enter Tryz.func28,Tryz.ntmps28;go_wp2_with fail
 go_loopg [5] n (fun k iv wr=>∃ i : Nat,i + k = n /\ iv = .int .i64 i /\ Below w.heap.size w wr)
 case atStart=>exact ⟨0,by omega,rfl,Below.refl _ _⟩
 case round =>
  obtain ⟨i,hik,rfl,hB⟩:=hrel
  cases gk with
  | zero =>
   obtain rfl : i = n:=by omega
   have t1 : decide ((i : Int) < (i : Int)) = false:=by simp
   go_wp2_with fail;go_ret;exact ⟨rfl,hB⟩
  | succ k' =>
   obtain rfl : k' = n - (i + 1):=by omega
   have hin : i < n:=by omega
   have t1 : decide ((i : Int) < (n : Int)) = true:=decide_eq_true (by omega)
   have bi : (i : Int) < (n : Int):=by omega
   obtain ⟨x,hx⟩:=Zg5 (L:=ds) (i:=i) (by rw [hl.out];exact hin);obtain ⟨g,o,A1,n1,c1,B1,m1,d1,rfl,⟨r0,r1,r2,r3⟩,l1,l2⟩:=(ha.out.below hB).2.2.2 i x hx;obtain ⟨g',o',A1',n1',c1',B1',m1',d1',rfl,⟨s0,s1,s2,s3⟩,l1',l2'⟩:=(hb.out.below hB).2.2.2 i x hx;replace l1:=Za l1;replace l2:=Za l2;replace l1':=Za l1';replace l2':=Za l2';go_wp2_with fail;obtain ⟨X0,hX0⟩ : ∃ X,wr.drew = X:=⟨_,rfl⟩
   have hr1 : Below wr.heap.size wr X0:=by rw [<- hX0];exact Zh (Below.refl _ _) 1
   have hSv1 : Hid (∀ wx,Below wr.heap.size wr wx -> wx.cell? ⟨g,o + i * 4,none⟩ = some (.bool x.na) /\ wx.cell? ⟨g,o + i * 4 + 1,none⟩ = some (.slice A1 n1 c1) /\ wx.cell? ⟨g,o + i * 4 + 2,none⟩ = some (.bool x.nb) /\ wx.cell? ⟨g,o + i * 4 + 3,none⟩ = some (.slice B1 m1 d1) /\ wx.cell? ⟨g',o' + i * 4,none⟩ = some (.bool x.na) /\ wx.cell? ⟨g',o' + i * 4 + 1,none⟩ = some (.slice A1' n1' c1') /\ wx.cell? ⟨g',o' + i * 4 + 2,none⟩ = some (.bool x.nb) /\ wx.cell? ⟨g',o' + i * 4 + 3,none⟩ = some (.slice B1' m1' d1')):=Za (fun wx hbx=>⟨Zc hbx r0,Zc hbx r1,Zc hbx r2,Zc hbx r3,Zc hbx s0,Zc hbx s1,Zc hbx s2,Zc hbx s3⟩);refine wp_heldS [] hmx hSv1 (by rw [hX0];exact hr1) (fun hxs=>?_);rw [hX0];refine Zty 8 [0,1,2,3,4,5,6,7] rfl (by kernel_rfl) (hSv1.out _ hr1) ?_
   iterate 8 (refine tk1 (v:=?_) rfl (Or.inl ⟨by kernel_rfl,?_⟩) ?_;rotate_left;(· intro W2 hSw;(try dsimp only at hSw);go_simp;try with_reducible rfl);try simp only [Act.put,putL_a,putL_z,putL_s,putG_a,putG_s,putG_z])
   refine tk0 ?_;refine Ze (i:=8) rfl (by kernel_rfl) (fun K hK=>?_);go_simp;refine (Zoi x.na x.nb A1 B1 A1' B1' n1 c1 m1 d1 n1' c1' m1' d1' x.la x.lb X0 (l1.out.below hr1) (l2.out.below hr1) (l1'.out.below hr1) (l2'.out.below hr1)).mono ?_;rintro e w3 ⟨rfl,hb3⟩;have hr3:=hr1.trans (hb3.mono hr1.size);have hB3:=hB.trans (hr3.mono hB.size);refine hK.out _ _ (fun _=>hSv1.out _ hr3) ?_;clear hK K
   try simp only [Act.put,putL_a,putL_z,putL_s]
   refine Ztx 1 [9] rfl (by kernel_rfl) (hSv1.out _ hr3) ?_
   (refine tk1 (v:=?_) rfl (Or.inl ⟨by kernel_rfl,?_⟩) ?_;rotate_left;(· intro W2 _;go_simp;try with_reducible rfl);try simp only [Act.put,putL_a,putL_z,putL_s,putG_a,putG_s,putG_z])
   refine tk0 ?_;refine Zj (by kernel_rfl) ?_ _;refine OnlyNormal.normal ?_;clear hxs hSv1;go_wp2_with fail
   go_roundg (n - (i + 1))
   case measure=>omega
   case rel=>exact ⟨i + 1,by omega,by go_num,hB3⟩
theorem Zrm {rs : List RX} {k : Int} (h : Zb7 rs k = 0) : Za9 rs = 0 /\ rs.length = 6 /\ 0 <= k /\ k <= 5:=by
 by_cases h1 : Za9 rs = 0
 case neg=>rw [Zdf rfl h1] at h;exact absurd h h1
 by_cases h2 : rs.length = 6
 case neg=>rw [Zfh h1 h2] at h;cases h
 by_cases h3 : 0 <= k /\ k <= 5
 case neg=>rw [Zdl h1 h2 h3] at h;cases h
 exact ⟨h1,h2,h3⟩
theorem Zk0 {rs : List RX} {A : Option Addr} {n c : Nat} {w : World} {k d : Int} (h : MXL w A n c rs) (hf : Znr 3 rs) (h0 : Zb7 rs k = 0) (hd1 : -9223372036854775808 <= d) (hd2 : d <= 9223372036854775807) : Zjo (Ze9 (Zk (qM rs)) k.toNat) d:=by
 obtain ⟨hE,hl,hk0,hk5⟩:=Zrm h0;obtain ⟨hcV,hcS,hcP⟩:=Ziv hE;have hS:=hcV.small h hf
 have hd : SmN 2 1 (d : Rat):=SmN.int (by have e : pw 2 = 18446744073709551616:=by decide
                                          omega)
 have hne : Zk (qM rs) k.toNat k.toNat ≠ 0:=by
  have h1:=Zeb (A:=Zk (qM rs)) (n:=rs.length) (fun i k hi hk=>symB_iff.1 hcS i k (by unfold qM;rw [List.length_map];exact hi) (by unfold qM;rw [List.length_map];exact hk)) hcP (k:=k.toNat) (by omega) k.toNat 0 (by omega);intro e;have e2 : Zz (Zk (qM rs)) 0 k.toNat k.toNat = 0:=e;rw [e2] at h1;exact absurd h1 (by decide)
 refine ⟨hd.sm (by decide) (by decide),fun i=>?_⟩
 by_cases hi : i < 6
 ·have e : (Ze9 (Zk (qM rs)) k.toNat)[i]?.getD 0 = Zk (qM rs) i k.toNat / Zk (qM rs) k.toNat k.toNat:=by
    unfold Ze9;rw [List.getElem?_map,List.getElem?_range hi];rfl
  rw [e]
  have hN : ∀ i j,SmN 4 4 (Zk (qM rs) i j):=fun i j=>⟨Nat.lt_of_le_of_lt (hS i j).1 (Zf0 (by decide)),Nat.lt_of_le_of_lt (hS i j).2 (Zf0 (by decide))⟩
  have h1:=SmN.divN (hN i k.toNat) (hN k.toNat k.toNat) hne;exact ⟨h1.sm (by decide) (by decide),(h1.mulN hd).sm (by decide) (by decide)⟩
 ·have e : (Ze9 (Zk (qM rs)) k.toNat)[i]?.getD 0 = 0:=by
    rw [List.getElem?_eq_none (by rw [Zey];omega)];rfl
  rw [e,Rat.zero_mul];have h1:=(SmN.zeroC 0 0).sm (by decide) (by decide);exact ⟨h1,h1⟩
open Go.RowKit Go.Shelf
attribute [local go_sem] Oper.semAt_some
theorem Zec {W W' : World} (hb : Below W.heap.size W W') : W.grownBy W' none:=⟨hb.os,hb.tape,hb.output,hb.size,fun k hk _=>hb.block k hk⟩
def Zb6 (N : Nat) (step : Int) (k : Nat) : Int:=((k : Int) - N) * step
noncomputable def encStep (s : St) (dir : List Rat) (N : Nat) (step : Int) (k : Nat) : Array Value:=#[.agg (movV s dir (Zb6 N step k)).cells,.int .i64 (movE s dir (Zb6 N step k))]
theorem Zei {N : Nat} {step : Int} {k : Nat} (hN : N <= 20) (h1 : 1 <= step) (h2 : step <= 1125899906842624) (hk : k <= 2 * N) : -22517998136852480 <= Zb6 N step k /\ Zb6 N step k <= 22517998136852480:=by
 unfold Zb6
 have ha : -20 <= (k : Int) - N /\ (k : Int) - N <= 20:=by omega
 obtain ⟨a,e⟩ : ∃ a,(k : Int) - N = a:=⟨_,rfl⟩;rw [e] at ha ⊢
 constructor
 ·have:=Int.mul_le_mul_of_nonneg_right ha.1 (show (0 : Int) <= step by omega)
  omega
 ·have:=Int.mul_le_mul_of_nonneg_right ha.2 (show (0 : Int) <= step by omega)
  omega
def StpS (w2 : World) (Bn Bs Bd Bp N : Nat) (A : Option Addr) (c : Nat) (s : St) (step : Int) (W : World) : Prop:=
 (W.cell? ⟨Bn,0,none⟩ = some (.int .i64 N) /\ Blk W Bs 46 s.cells /\ W.cell? ⟨Bd,0,none⟩ = some (.slice A 6 c) /\ W.cell? ⟨Bp,0,none⟩ = some (.int .i64 step)) /\ Below w2.heap.size w2 W
section
variable {w2 : World} {Bn Bs Bd Bp N : Nat} {A : Option Addr} {c : Nat} {s : St} {step : Int} {W W' W2 : World}
theorem StpS.below (h : StpS w2 Bn Bs Bd Bp N A c s step W) (hb : Below W.heap.size W W') : StpS w2 Bn Bs Bd Bp N A c s step W':=
 ⟨⟨Zc hb h.1.1,Zb hb h.1.2.1,Zc hb h.1.2.2.1,Zc hb h.1.2.2.2⟩,h.2.trans (hb.mono h.2.size)⟩
def KpS (w2 : World) (Bn Bs Bd Bp N : Nat) (A : Option Addr) (c : Nat) (s : St) (step : Int) (W W' : World) : Prop:=StpS w2 Bn Bs Bd Bp N A c s step W -> StpS w2 Bn Bs Bd Bp N A c s step W'
theorem KpS.trans (h : KpS w2 Bn Bs Bd Bp N A c s step W W') (k : KpS w2 Bn Bs Bd Bp N A c s step W' W2) : KpS w2 Bn Bs Bd Bp N A c s step W W2:=fun x=>k (h x)
theorem KpS.put (W : World) (lp : Nat) (o o' : Obj) (hl : w2.heap.size <= lp) (ho : W.heap[lp]? = some o) (hc : o.isCells = false) : KpS w2 Bn Bs Bd Bp N A c s step W (W.putObj lp o'):=
 fun h=>⟨⟨cell_kept h.1.1 (grownBy_putObj' W lp o') (fun r e=>by cases e;exact ⟨o,ho,hc⟩),Zbl h.1.2.1 (grownBy_putObj' W lp o') (fun r e=>by cases e;exact ⟨o,ho,hc⟩),cell_kept h.1.2.2.1 (grownBy_putObj' W lp o') (fun r e=>by cases e;exact ⟨o,ho,hc⟩),cell_kept h.1.2.2.2 (grownBy_putObj' W lp o') (fun r e=>by cases e;exact ⟨o,ho,hc⟩)⟩,
  h.2.grown (grownBy_putObj' W lp o') h.2.size (fun k e=>by cases e;exact hl)⟩
end
theorem Zrl (w2 : World) (d0 : Nat) (hd : 1 <= d0) (lp Bn Bs Bd Bp N : Nat) (A : Option Addr) (c : Nat) (s : St) (dir : List Rat) (step : Int) (J Jx : List Nat -> World -> Prop) (hN : N <= 20) (hs1 : 1 <= step) (hs2 : step <= 1125899906842624)
    (hFL : FL w2 A 6 c dir) (hS : ∀ k,k <= 2 * N -> Zjo dir (Zb6 N step k))
    (hY : ∀ pre x W,J pre W -> pre.length < 2 * N + 1 -> YieldAt Fence.wide (d0 - 1) Tryz.prog lp (encStep s dir N step x) W fun e W' =>
     (e = .returned (.bool true) /\ J (pre ++ [x]) W' /\ KpS w2 Bn Bs Bd Bp N A c s step W W') \/ (e = .returned (.bool false) /\ Jx (pre ++ [x]) W'))
    (W : World) (hJ : AbidesFrom W.heap.size J) (hP : StpS w2 Bn Bs Bd Bp N A c s step W) (h0 : J [] W) :
    CallsIn Fence.wide d0 Tryz.prog 140 #[.func (.yield lp) #[] #[],.pointer (some ⟨Bn,0,none⟩),.pointer (some ⟨Bs,0,none⟩),.pointer (some ⟨Bd,0,none⟩),.pointer (some ⟨Bp,0,none⟩)] W fun e W'=>(∃ v,e = .returned v) /\
     ((∃ ys,ys = List.range (2 * N + 1) /\ J ys W') \/ (∃ pre,(∃ k,k <= 2 * N + 1 /\ pre = List.range k) /\ Jx pre W')):=by
 have hcap:=hFL.cap;unfold maxLen at hcap;refine callsIn_of_wp Tryz.func140 rfl trivial ?_ rfl;simp only [Tryz.ntmps140,List.size_toArray,List.length_cons,List.length_nil,Nat.reduceAdd,Nat.reduceSub,Array.replicate_succ,Array.replicate_zero,List.push_toArray,List.append_toArray,List.nil_append,List.cons_append];have cn1:=hP.1.1
 gi_wp2
 gi_loopw [6] (fun j wr=>∃ k : Nat,k <= 2 * N + 1 /\ j = .int .i64 ((k : Int) - N) /\ J (List.range k) wr /\ Hid (StpS w2 Bn Bs Bd Bp N A c s step wr))
  (fun j _=>(((N : Int) + 1) - intOf j).toNat)
 case atStart=>exact ⟨0,Nat.zero_le _,by go_num,h0,Za hP⟩
 case round =>
  obtain ⟨k,hk,rfl,hJs,hWr⟩:=hrel;have cn2:=hWr.out.1.1
  by_cases hlt : k < 2 * N + 1
  ·have t1 : decide ((k : Int) - N <= N) = true:=decide_eq_true (by omega)
   have t1' : (k : Int) - N <= N:=by omega
   obtain ⟨x0,x1,x2,x3,x4,x5,x6⟩:=Zaf hWr.out.1.2.1;have y1:=hWr.out.1.2.2.1;have y2:=hWr.out.1.2.2.2;have hDr : FL wr A 6 c dir:=hFL.below hWr.out.2;obtain ⟨hb1,hb2⟩:=Zei (k:=k) hN hs1 hs2 (by omega);have hSk:=hS k (by omega);obtain ⟨D,hfk⟩ : ∃ D,Zb6 N step k = D:=⟨_,rfl⟩;have hmul : ((k : Int) - N) * step = D:=hfk;rw [hfk] at hb1 hb2 hSk;have hwD : IntKind.i64.wrap D = D:=IntWalk.i64_in _ (by omega);have hwD2 : wrap64 D = D:=IntWalk.wrap64_in _ (by omega);replace hSk:=Za hSk;replace hDr:=Za hDr
   gi_wp2
   refine ⟨trivial,?_⟩;refine (callsIn_wide.2 (move_ok s A c dir D wr hDr.out hSk.out (by omega) (by omega))).mono ?_;rintro e w3 ⟨rfl,hb3⟩;have hW3:=Za (hWr.out.below hb3);have hJ3 : J (List.range k) w3:=hJ _ _ _ none hJs (Zec hb3) (fun r e=>by cases e);obtain ⟨fn,tmps,assign,body,hy,hR⟩:=hY (List.range k) k w3 hJ3 (by rw [List.length_range];exact hlt);dsimp only [encStep] at hy;rw [hfk] at hy;clear x0 x1 x2 x3 x4 x5 x6 y1 y2 cn2 hWr
   gi_wp2
   refine hR.mono ?_;rintro e W4 (⟨rfl,hJ4,hk4⟩ | ⟨rfl,hJx4⟩)
   ·gi_wp2
    go_roundw
    case rel=>exact ⟨k + 1,by omega,by go_num,by rw [List.range_succ];exact hJ4,Za (hk4 hW3.out)⟩
    case measure=>simp [intOf];omega
   ·gi_wp2
    refine bodyPost_ret (results_none rfl _ _ _) rfl ?_;exact ⟨⟨_,rfl⟩,.inr ⟨_,⟨k + 1,by omega,List.range_succ.symm⟩,hJx4⟩⟩
  ·obtain rfl : k = 2 * N + 1:=by omega
   have t1 : decide (((2 * N + 1 : Nat) : Int) - N <= N) = false:=decide_eq_false (by omega)
   gi_wp2
   go_end0
   exact ⟨⟨_,rfl⟩,.inl ⟨_,rfl,hJs⟩⟩
theorem Zm6 (w2 : World) (d0 : Nat) (hd : 1 <= d0) (Bn Bs Bd Bp N : Nat) (A : Option Addr) (c : Nat) (s : St) (dir : List Rat) (step : Int) (hN : N <= 20) (hs1 : 1 <= step) (hs2 : step <= 1125899906842624)
    (hFL : FL w2 A 6 c dir) (hS : ∀ k,k <= 2 * N -> Zjo dir (Zb6 N step k)) (w : World) (hP : StpS w2 Bn Bs Bd Bp N A c s step w) :
    SeqStopsK Fence.wide d0 Tryz.prog 140 #[.pointer (some ⟨Bn,0,none⟩),.pointer (some ⟨Bs,0,none⟩),.pointer (some ⟨Bd,0,none⟩),.pointer (some ⟨Bp,0,none⟩)] (encStep s dir N step) (KpS w2 Bn Bs Bd Bp N A c s step) (fun ys=>ys = List.range (2 * N + 1)) (fun pre=>∃ k,k <= 2 * N + 1 /\ pre = List.range k) (2 * N + 1) w:=fun lp J Jx W hW hJ _ hY h0 =>
 Zrl w2 d0 hd lp Bn Bs Bd Bp N A c s dir step J Jx hN hs1 hs2 hFL hS hY W hJ (hP.below hW) h0
theorem Zry (s : St) (A : Option Addr) (n c : Nat) (step k : Int) (w : World) :
    Calls Tryz.prog 78 #[.agg #[.int .i64 s.t,.int .i64 s.p0,.int .i64 s.p1,.int .i64 s.p2,.int .i64 s.v0,.int .i64 s.v1,.int .i64 s.v2],.slice A n c,.int .i64 step,.int .i64 k] w fun e w'=>e = .returned (.func (.func 140) #[] #[.pointer (some ⟨w.heap.size + 1 + 1 + 1,0,none⟩),.pointer (some ⟨w.heap.size,0,none⟩),.pointer (some ⟨w.heap.size + 1,0,none⟩),.pointer (some ⟨w.heap.size + 1 + 1,0,none⟩)]) /\ w' = (((w.alloc (.cells #[.int .i64 s.t,.int .i64 s.p0,.int .i64 s.p1,.int .i64 s.p2,.int .i64 s.v0,.int .i64 s.v1,.int .i64 s.v2] 46)).alloc (.cells #[.slice A n c] 23)).alloc (.cells #[.int .i64 step] 2)).alloc (.cells #[.int .i64 k] 3):=by
 have hmf : ∀ (fn : Fn) (first cap : Array Value) (w : World),(Instr.makeFunc fn first cap).run Tryz.prog w = .ok (.func fn first cap) w:=fun _ _ _ _=>rfl
 go_enter Tryz.func78,Tryz.ntmps78;go_wp2_with fail;go_ret;exact ⟨rfl,rfl⟩
def SL (w : World) (A : Option Addr) (n c : Nat) (ss : List St) : Prop:=
 ss.length = n /\ n <= c /\ c <= maxLen /\ ∀ (k : Nat) (s : St),ss[k]? = some s -> ∃ g o,A = some ⟨g,o,none⟩ /\ w.cell? ⟨g,o + k * 7,none⟩ = some (.int .i64 s.t) /\ w.cell? ⟨g,o + k * 7 + 1,none⟩ = some (.int .i64 s.p0) /\ w.cell? ⟨g,o + k * 7 + 2,none⟩ = some (.int .i64 s.p1) /\ w.cell? ⟨g,o + k * 7 + 3,none⟩ = some (.int .i64 s.p2) /\ w.cell? ⟨g,o + k * 7 + 4,none⟩ = some (.int .i64 s.v0) /\ w.cell? ⟨g,o + k * 7 + 5,none⟩ = some (.int .i64 s.v1) /\ w.cell? ⟨g,o + k * 7 + 6,none⟩ = some (.int .i64 s.v2)
theorem SL.nil (w : World) : SL w none 0 0 []:=⟨rfl,Nat.le_refl _,Nat.zero_le _,fun k s h=>(by cases h)⟩
theorem SL.below {w w' : World} {A : Option Addr} {n c : Nat} {ss : List St} (h : SL w A n c ss) (hb : Below w.heap.size w w') : SL w' A n c ss:=by
 obtain ⟨h1,h2,h3,h4⟩:=h;refine ⟨h1,h2,h3,fun k s hs=>?_⟩;obtain ⟨g,o,e,c0,c1,c2,c3,c4,c5,c6⟩:=h4 k s hs;exact ⟨g,o,e,Zc hb c0,Zc hb c1,Zc hb c2,Zc hb c3,Zc hb c4,Zc hb c5,Zc hb c6⟩
theorem SL.at_ {w : World} {A : Option Addr} {n c : Nat} {ss : List St} (h : SL w A n c ss) {k : Nat} (hk : k < n) : ∃ g o s,A = some ⟨g,o,none⟩ /\ ss[k]? = some s /\ w.cell? ⟨g,o + k * 7,none⟩ = some (.int .i64 s.t) /\ w.cell? ⟨g,o + k * 7 + 1,none⟩ = some (.int .i64 s.p0) /\ w.cell? ⟨g,o + k * 7 + 2,none⟩ = some (.int .i64 s.p1) /\ w.cell? ⟨g,o + k * 7 + 3,none⟩ = some (.int .i64 s.p2) /\ w.cell? ⟨g,o + k * 7 + 4,none⟩ = some (.int .i64 s.v0) /\ w.cell? ⟨g,o + k * 7 + 5,none⟩ = some (.int .i64 s.v1) /\ w.cell? ⟨g,o + k * 7 + 6,none⟩ = some (.int .i64 s.v2):=by
 have hs:=List.getElem?_eq_getElem (l:=ss) (i:=k) (by rw [h.1];exact hk);obtain ⟨g,o,e,hc⟩:=h.2.2.2 k _ hs;exact ⟨g,o,_,e,hs,hc⟩
theorem St.ext' {a b : St} (h0 : a.t = b.t) (h1 : a.p0 = b.p0) (h2 : a.p1 = b.p1) (h3 : a.p2 = b.p2) (h4 : a.v0 = b.v0) (h5 : a.v1 = b.v1) (h6 : a.v2 = b.v2) : a = b:=by
 cases a;cases b;simp only at h0 h1 h2 h3 h4 h5 h6;subst h0 h1 h2 h3 h4 h5 h6;rfl
theorem Zmm (A B : Option Addr) (n m c d : Nat) (xs ys : List St) (w : World) (ha : SL w A n c xs) (hb : SL w B m d ys) :
    Calls Tryz.prog 27 #[.slice A n c,.slice B m d] w fun e w'=>∃ b,e = .returned (.bool b) /\ (b = true ↔ xs = ys) /\ Below w.heap.size w w':=by
 have hmx : Tryz.prog.follows .mixedOrders = true:=by kernel_rfl
 have hla:=Za ha.1;have hlb:=Za hb.1;have hnc:=ha.2.1;have hcm:=ha.2.2.1;have hmd:=hb.2.1;have hdm:=hb.2.2.1;unfold maxLen at hcm hdm;replace ha:=Za ha;replace hb:=Za hb
 by_cases hnm : n = m
 case neg =>
  have t1 : ((n : Int) == (m : Int)) = false:=by simp;omega
  have t1' : ((n : Int) != (m : Int)) = true:=by rw [bne,t1];rfl
  have t1'' : decide (n = m) = false:=by simpa using hnm
  have hne : Hid (xs ≠ ys):=Za (fun e=>hnm (by rw [<- hla.out,<- hlb.out,e]));replace hnm:=Za hnm;go_enter Tryz.func27,Tryz.ntmps27;go_wp2_with fail;go_ret;exact ⟨false,rfl,⟨fun h=>(by cases h),fun e=>absurd e hne.out⟩,Below.refl _ _⟩
 subst hnm;go_enter Tryz.func27,Tryz.ntmps27;go_wp2_with fail
 go_loopg [5] n (fun k iv wr=>∃ i : Nat,i + k = n /\ iv = .int .i64 i /\ Hid (∀ j,j < i -> xs[j]? = ys[j]?) /\ Below w.heap.size w wr)
 case atStart=>exact ⟨0,by omega,rfl,Za (fun j hj=>by omega),Below.refl _ _⟩
 case round =>
  obtain ⟨wi,rfl⟩ : ∃ x : World,x = wr:=⟨_,rfl⟩;obtain ⟨i,hik,rfl,hE,hBi⟩:=hrel
  cases gk with
  | zero =>
   obtain rfl : i = n:=by omega
   have t3 : decide ((i : Int) < (i : Int)) = false:=by simp
   have heq : Hid (xs = ys):=Za (List.ext_getElem? fun j=>by
    by_cases hj : j < i
    ·exact hE.out j hj
    ·rw [List.getElem?_eq_none (by rw [hla.out];omega),List.getElem?_eq_none (by rw [hlb.out];omega)])
   go_wp2_with fail;go_ret;exact ⟨true,rfl,⟨fun _=>heq.out,fun _=>rfl⟩,hBi⟩
  | succ k' =>
   obtain rfl : k' = n - (i + 1):=by omega
   have hin : i < n:=by omega
   have t3 : decide ((i : Int) < (n : Int)) = true:=decide_eq_true (by omega)
   have bi : (i : Int) < (n : Int):=by omega
   obtain ⟨g1,o1,a,rfl,hea,x0,x1,x2,x3,x4,x5,x6⟩:=(ha.out.below hBi).at_ hin;obtain ⟨g2,o2,b,rfl,heb,y0,y1,y2,y3,y4,y5,y6⟩:=(hb.out.below hBi).at_ hin;have hr : Below wi.heap.size wi wi.drew:=Zh (Below.refl _ _) 1;have hSv : (wi.drew.cell? ⟨g1,o1 + i * 7,none⟩ = some (.int .i64 a.t) /\ wi.drew.cell? ⟨g1,o1 + i * 7 + 1,none⟩ = some (.int .i64 a.p0) /\ wi.drew.cell? ⟨g1,o1 + i * 7 + 2,none⟩ = some (.int .i64 a.p1) /\ wi.drew.cell? ⟨g1,o1 + i * 7 + 3,none⟩ = some (.int .i64 a.p2) /\ wi.drew.cell? ⟨g1,o1 + i * 7 + 4,none⟩ = some (.int .i64 a.v0) /\ wi.drew.cell? ⟨g1,o1 + i * 7 + 5,none⟩ = some (.int .i64 a.v1) /\ wi.drew.cell? ⟨g1,o1 + i * 7 + 6,none⟩ = some (.int .i64 a.v2)) /\ (wi.drew.cell? ⟨g2,o2 + i * 7,none⟩ = some (.int .i64 b.t) /\ wi.drew.cell? ⟨g2,o2 + i * 7 + 1,none⟩ = some (.int .i64 b.p0) /\ wi.drew.cell? ⟨g2,o2 + i * 7 + 2,none⟩ = some (.int .i64 b.p1) /\ wi.drew.cell? ⟨g2,o2 + i * 7 + 3,none⟩ = some (.int .i64 b.p2) /\ wi.drew.cell? ⟨g2,o2 + i * 7 + 4,none⟩ = some (.int .i64 b.v0) /\ wi.drew.cell? ⟨g2,o2 + i * 7 + 5,none⟩ = some (.int .i64 b.v1) /\ wi.drew.cell? ⟨g2,o2 + i * 7 + 6,none⟩ = some (.int .i64 b.v2)):=⟨⟨Zc hr x0,Zc hr x1,Zc hr x2,Zc hr x3,Zc hr x4,Zc hr x5,Zc hr x6⟩,⟨Zc hr y0,Zc hr y1,Zc hr y2,Zc hr y3,Zc hr y4,Zc hr y5,Zc hr y6⟩⟩;have hBr:=hBi.trans (hr.mono hBi.size);replace hea:=Za hea;replace heb:=Za heb
   by_cases hab : a = b
   case pos =>
    subst hab
    have hEq : ∀ w,(Op.equalIn 10000 46 (.agg #[.int .i64 a.t,.int .i64 a.p0,.int .i64 a.p1,.int .i64 a.p2,.int .i64 a.v0,.int .i64 a.v1,.int .i64 a.v2]) (.agg #[.int .i64 a.t,.int .i64 a.p0,.int .i64 a.p1,.int .i64 a.p2,.int .i64 a.v0,.int .i64 a.v1,.int .i64 a.v2])).run Tryz.prog w = .ok true w:=fun w=>by rw [Znk];simp
    have hE2 : Hid (∀ j,j < i + 1 -> xs[j]? = ys[j]?):=Za (fun j hj=>by
     by_cases e : j = i
     ·subst e;rw [hea.out,heb.out]
     ·exact hE.out j (by omega))
    go_wp2_with fail;refine Z0 [] (fun wx=>(wx.cell? ⟨g1,o1 + i * 7,none⟩ = some (.int .i64 a.t) /\ wx.cell? ⟨g1,o1 + i * 7 + 1,none⟩ = some (.int .i64 a.p0) /\ wx.cell? ⟨g1,o1 + i * 7 + 2,none⟩ = some (.int .i64 a.p1) /\ wx.cell? ⟨g1,o1 + i * 7 + 3,none⟩ = some (.int .i64 a.p2) /\ wx.cell? ⟨g1,o1 + i * 7 + 4,none⟩ = some (.int .i64 a.v0) /\ wx.cell? ⟨g1,o1 + i * 7 + 5,none⟩ = some (.int .i64 a.v1) /\ wx.cell? ⟨g1,o1 + i * 7 + 6,none⟩ = some (.int .i64 a.v2)) /\ (wx.cell? ⟨g2,o2 + i * 7,none⟩ = some (.int .i64 a.t) /\ wx.cell? ⟨g2,o2 + i * 7 + 1,none⟩ = some (.int .i64 a.p0) /\ wx.cell? ⟨g2,o2 + i * 7 + 2,none⟩ = some (.int .i64 a.p1) /\ wx.cell? ⟨g2,o2 + i * 7 + 3,none⟩ = some (.int .i64 a.p2) /\ wx.cell? ⟨g2,o2 + i * 7 + 4,none⟩ = some (.int .i64 a.v0) /\ wx.cell? ⟨g2,o2 + i * 7 + 5,none⟩ = some (.int .i64 a.v1) /\ wx.cell? ⟨g2,o2 + i * 7 + 6,none⟩ = some (.int .i64 a.v2))) hmx hSv (fun hxs=>?_);refine Zty 9 [0,1,2,3,4,5,6,7,8] rfl (by kernel_rfl) hSv ?_
    iterate 9 (refine tk1 (v:=?_) rfl (Or.inl ⟨by kernel_rfl,?_⟩) ?_;rotate_left;(· intro W2 hSw;(try dsimp only at hSw);go_simp;try with_reducible rfl);try simp only [Act.put,putL_a,putL_z,putL_s,putG_a,putG_s,putG_z])
    refine tk0 ?_;refine Zj (by kernel_rfl) ?_ _;refine OnlyNormal.normal ?_;go_wp2_with fail
    go_roundg (n - (i + 1))
    case measure=>omega
    case rel=>exact ⟨i + 1,by omega,by go_num,hE2,hBr⟩
   case neg =>
    have hEq : ∀ w,(Op.equalIn 10000 46 (.agg #[.int .i64 a.t,.int .i64 a.p0,.int .i64 a.p1,.int .i64 a.p2,.int .i64 a.v0,.int .i64 a.v1,.int .i64 a.v2]) (.agg #[.int .i64 b.t,.int .i64 b.p0,.int .i64 b.p1,.int .i64 b.p2,.int .i64 b.v0,.int .i64 b.v1,.int .i64 b.v2])).run Tryz.prog w = .ok false w:=fun w=>by
     rw [Znk]
     congr 1
     rw [Bool.eq_false_iff];intro h;simp only [Bool.and_eq_true,decide_eq_true_eq] at h;exact hab (St.ext' h.1.1 h.1.2.1.1 h.1.2.1.2 h.1.2.2 h.2.1.1 h.2.1.2 h.2.2)
    have hne : Hid (xs ≠ ys):=Za (fun e=>hab (by
     have h1:=hea.out;rw [e,heb.out] at h1
     exact (Option.some.inj h1).symm))
    replace hab:=Za hab;go_wp2_with fail;refine Z0 [] (fun wx=>(wx.cell? ⟨g1,o1 + i * 7,none⟩ = some (.int .i64 a.t) /\ wx.cell? ⟨g1,o1 + i * 7 + 1,none⟩ = some (.int .i64 a.p0) /\ wx.cell? ⟨g1,o1 + i * 7 + 2,none⟩ = some (.int .i64 a.p1) /\ wx.cell? ⟨g1,o1 + i * 7 + 3,none⟩ = some (.int .i64 a.p2) /\ wx.cell? ⟨g1,o1 + i * 7 + 4,none⟩ = some (.int .i64 a.v0) /\ wx.cell? ⟨g1,o1 + i * 7 + 5,none⟩ = some (.int .i64 a.v1) /\ wx.cell? ⟨g1,o1 + i * 7 + 6,none⟩ = some (.int .i64 a.v2)) /\ (wx.cell? ⟨g2,o2 + i * 7,none⟩ = some (.int .i64 b.t) /\ wx.cell? ⟨g2,o2 + i * 7 + 1,none⟩ = some (.int .i64 b.p0) /\ wx.cell? ⟨g2,o2 + i * 7 + 2,none⟩ = some (.int .i64 b.p1) /\ wx.cell? ⟨g2,o2 + i * 7 + 3,none⟩ = some (.int .i64 b.p2) /\ wx.cell? ⟨g2,o2 + i * 7 + 4,none⟩ = some (.int .i64 b.v0) /\ wx.cell? ⟨g2,o2 + i * 7 + 5,none⟩ = some (.int .i64 b.v1) /\ wx.cell? ⟨g2,o2 + i * 7 + 6,none⟩ = some (.int .i64 b.v2))) hmx hSv (fun hxs=>?_);refine Zty 9 [0,1,2,3,4,5,6,7,8] rfl (by kernel_rfl) hSv ?_
    iterate 9 (refine tk1 (v:=?_) rfl (Or.inl ⟨by kernel_rfl,?_⟩) ?_;rotate_left;(· intro W2 hSw;(try dsimp only at hSw);go_simp;try with_reducible rfl);try simp only [Act.put,putL_a,putL_z,putL_s,putG_a,putG_s,putG_z])
    refine tk0 ?_;refine Zj (by kernel_rfl) ?_ _;refine OnlyNormal.normal ?_;go_wp2_with fail;go_ret;exact ⟨false,rfl,⟨fun h=>(by cases h),fun e=>absurd e hne.out⟩,hBr⟩
def Zf4 (rs : List RX) (k : Int) : List Rat:=Ze9 (Zk (qM rs)) k.toNat
def lineB (dir : List Rat) (s : St) (step : Int) (N : Nat) : Prop:=∀ j,j <= 2 * N -> movE s dir (Zb6 N step j) = 0
noncomputable def lineM (dir : List Rat) (s : St) (step : Int) (N : Nat) : Int:=@ite Int (lineB dir s step N) (Classical.propDecidable _) 0 24
noncomputable def lineE (rs : List RX) (s : St) (k step n : Int) : Int:=if stE s ≠ 0 then stE s else if Zb7 rs k ≠ 0 then Zb7 rs k else if 1 <= step /\ step <= 1125899906842624 /\ 0 <= n /\ n <= 20 then lineM (Zf4 rs k) s step n.toNat else 2
noncomputable def lineS (dir : List Rat) (s : St) (step : Int) (N : Nat) : List St:=(List.range (2 * N + 1)).map fun j=>movV s dir (Zb6 N step j)
def LinePost (rs : List RX) (s : St) (k step n : Int) (w : World) (e : Ending) (w' : World) : Prop:=
 Below w.heap.size w w' /\ ((lineE rs s k step n = 0 /\ ∃ A c,e = .returned (.tuple #[.slice A (2 * n.toNat + 1) c,.int .i64 0]) /\ SL w' A (2 * n.toNat + 1) c (lineS (Zf4 rs k) s step n.toNat)) \/ (lineE rs s k step n ≠ 0 /\ e = .returned (.tuple #[.slice none 0 0,.int .i64 (lineE rs s k step n)])))
theorem Zti (s : St) (dir : List Rat) (d : Int) : movE s dir d = 0 \/ movE s dir d = 24:=by
 unfold movE;split
 ·exact .inl rfl
 ·exact .inr rfl
section
variable {rs : List RX} {s : St} {k step n E : Int}
theorem Zpv (h : stE s = E) (h0 : E ≠ 0) : lineE rs s k step n = E:=by subst h;exact if_pos h0
theorem Zmo (h : stE s = 0) (h1 : Zb7 rs k = E) (h0 : E ≠ 0) : lineE rs s k step n = E:=by
 subst h1;unfold lineE;rw [if_neg (by simp [h])];exact if_pos h0
theorem Znb (h : stE s = 0) (h1 : Zb7 rs k = 0) (h2 : ¬ (1 <= step /\ step <= 1125899906842624 /\ 0 <= n /\ n <= 20)) : lineE rs s k step n = 2:=by
 unfold lineE;rw [if_neg (by simp [h]),if_neg (by simp [h1])];exact if_neg h2
theorem Zn3 (h : stE s = 0) (h1 : Zb7 rs k = 0) (h2 : 1 <= step /\ step <= 1125899906842624 /\ 0 <= n /\ n <= 20) : lineE rs s k step n = lineM (Zf4 rs k) s step n.toNat:=by
 unfold lineE;rw [if_neg (by simp [h]),if_neg (by simp [h1])];exact if_pos h2
theorem Zm8 {dir : List Rat} {N : Nat} (h : lineB dir s step N) : lineM dir s step N = 0:=@if_pos _ (Classical.propDecidable _) h _ _ _
theorem Zk6 {dir : List Rat} {N j : Nat} (hj : j <= 2 * N) (h : movE s dir (Zb6 N step j) ≠ 0) : lineM dir s step N = 24:=@if_neg _ (Classical.propDecidable _) (fun hb=>h (hb j hj)) _ _ _
end
noncomputable def flatK (dir : List Rat) (s : St) (step : Int) (N : Nat) (pre : List Nat) : List Value:=pre.flatMap fun k=>(movV s dir (Zb6 N step k)).cells.toList
theorem Zox (dir : List Rat) (s : St) (step : Int) (N : Nat) (pre : List Nat) (k : Nat) : flatK dir s step N (pre ++ [k]) = flatK dir s step N pre ++ (movV s dir (Zb6 N step k)).cells.toList:=by
 unfold flatK;rw [List.flatMap_append];simp
theorem Zmh {α : Type} {f : α -> List Value} {m : Nat} (hf : ∀ x,(f x).length = m) : ∀ (l : List α) (k i : Nat) (x : α),l[k]? = some x -> i < m -> (l.flatMap f)[k * m + i]? = (f x)[i]?
 | [],k,i,x,h,_=>by simp at h
 | y :: l,0,i,x,h,hi=>by
  obtain rfl : y = x:=by simpa using h
  rw [List.flatMap_cons,Nat.zero_mul,Nat.zero_add,List.getElem?_append_left (by rw [hf];exact hi)]
 | y :: l,k + 1,i,x,h,hi=>by
  have h' : l[k]? = some x:=by simpa using h
  rw [List.flatMap_cons,List.getElem?_append_right (by rw [hf,Nat.add_mul];omega),hf,show (k + 1) * m + i - m = k * m + i by rw [Nat.add_mul];omega];exact Zmh hf l k i x h' hi
theorem Zr8 {w : World} {base : Nat} {v : Value} {ss : List St} (h : w.ownsRow base 46 7 v ss.length (ss.flatMap fun s=>s.cells.toList)) (hn : 0 < ss.length) : ∃ A c,v = .slice A ss.length c /\ SL w A ss.length c ss:=by
 rcases h.2 with ⟨_,h0⟩ | ⟨g,cap,cur,rfl,_,hg,h1,h2,h3,h4⟩
 ·omega
 refine ⟨_,_,rfl,rfl,h1,h2,fun k s hs=>?_⟩;have hk : k < ss.length:=(List.getElem?_eq_some_iff.1 hs).1
 have hc : ∀ i,i < 7 -> ∀ x,s.cells.toList[i]? = some x -> w.cell? ⟨g,k * 7 + i,none⟩ = some x:=fun i hi x hx=>by
  have e:=Zmh (f:=fun s : St=>s.cells.toList) (m:=7) (fun _=>rfl) ss k i s hs hi;rw [hx,<- h4,List.getElem?_take_of_lt (by omega),Array.getElem?_toList] at e;simp only [World.cell?,hg];exact e
 refine ⟨g,0,rfl,?_⟩;rw [Nat.zero_add];exact ⟨hc 0 (by omega) _ rfl,hc 1 (by omega) _ rfl,hc 2 (by omega) _ rfl,hc 3 (by omega) _ rfl,hc 4 (by omega) _ rfl,hc 5 (by omega) _ rfl,hc 6 (by omega) _ rfl⟩
theorem Zik (W : World) (cs : Array Value) (t : TypeId) : ∀ (j : Nat) (u : Value),cs.toList[j]? = some u -> (W.alloc (.cells cs t)).cell? ((⟨W.heap.size,0,none⟩ : Addr).add j) = some u:=by
 intro j u h;have h1:=(Blk.new W t cs).cell j;rw [Array.getElem?_toList] at h;rw [h] at h1
 have e : (⟨W.heap.size,0,none⟩ : Addr).add j = ⟨W.heap.size,j,none⟩:=by
  cases j with
  | zero=>rfl
  | succ j=>simp [Addr.add]
 rw [e];exact h1
theorem Zrz {W w1 : World} {gr g15 g : Nat} {tmp : Obj} {v' : Value} (hg : (W.alloc tmp).grownBy w1 (some gr)) (hl : g < W.heap.size) (h1 : g ≠ gr) (h2 : g ≠ g15) : (w1.setCell ⟨g15,0,none⟩ v').heap[g]? = W.heap[g]?:=
 (Below.heap_setCell _ _ _ g h2).trans ((hg.block g (by simp;omega) (by simpa using h1)).trans (Below.heap_alloc W _ g hl))
theorem Ztn : (Tryz.prog.info? 46).map (fun i=>(i.zero,i.size,i.bytes)) = some (some (.agg #[.int .i64 0,.int .i64 0,.int .i64 0,.int .i64 0,.int .i64 0,.int .i64 0,.int .i64 0]),7,56):=by kernel_rfl
theorem Zd4 {rs : List RX} {s : St} {kk step N E : Int} {w W : World} {tmps : Array Value} (hM : lineE rs s kk step N = E) (h0 : E ≠ 0) (hB : Below w.heap.size w W) (q1 : Blk W (w.heap.size + 1) 47 #[.slice none 0 0]) (q2 : Blk W (w.heap.size + 1 + 1) 30 #[.int .i64 0])
    (h10 : tmps[10]? = some (.pointer (some ⟨w.heap.size + 1,0,none⟩))) (h11 : tmps[11]? = some (.pointer (some ⟨w.heap.size + 1 + 1,0,none⟩))) : bodyPostM Fence.wide 9 Tryz.prog Tryz.f21 (LinePost rs s kk step N w) .ret { tmps:=tmps,defers:=[] } ((W.setCell ⟨w.heap.size + 1,0,none⟩ (.slice none 0 0)).setCell ⟨w.heap.size + 1 + 1,0,none⟩ (.int .i64 E)):=by
 have k1 : Blk (W.setCell ⟨w.heap.size + 1,0,none⟩ (.slice none 0 0)) (w.heap.size + 1) _ #[.slice none 0 0]:=q1.set_ 0 (.slice none 0 0);have k2 : Blk (W.setCell ⟨w.heap.size + 1,0,none⟩ (.slice none 0 0)) (w.heap.size + 1 + 1) _ #[.int .i64 0]:=q2.far (by simp) _;have k3 : Blk ((W.setCell ⟨w.heap.size + 1,0,none⟩ (.slice none 0 0)).setCell ⟨w.heap.size + 1 + 1,0,none⟩ (.int .i64 E)) (w.heap.size + 1) _ #[.slice none 0 0]:=k1.far (by simp) _;have k4 : Blk ((W.setCell ⟨w.heap.size + 1,0,none⟩ (.slice none 0 0)).setCell ⟨w.heap.size + 1 + 1,0,none⟩ (.int .i64 E)) (w.heap.size + 1 + 1) _ #[.int .i64 E]:=k2.set_ 0 (.int .i64 E);have c1:=k3.cell 0;have c2:=k4.cell 0;simp only [List.getElem?_toArray,List.getElem?_cons_zero] at c1 c2;have hB2 : Below w.heap.size w ((W.setCell ⟨w.heap.size + 1,0,none⟩ (.slice none 0 0)).setCell ⟨w.heap.size + 1 + 1,0,none⟩ (.int .i64 E)):=(hB.setCell (p:=⟨w.heap.size + 1,0,none⟩) (Nat.le_succ _) _).setCell (p:=⟨w.heap.size + 1 + 1,0,none⟩) (Nat.le_trans (Nat.le_succ _) (Nat.le_succ _)) _;refine ⟨.tuple #[.slice none 0 0,.int .i64 E],?_,hB2,.inr ⟨by rw [hM];exact h0,by rw [hM]⟩⟩
 simp [results,Tryz.f21,go_sem,c1,c2,h10,h11]
theorem Zsc (s : St) (A : Option Addr) (n c : Nat) (rs : List RX) (kk step N : Int) (w : World) (h : MXL w A n c rs) (hF : FacC rs) (hf : Znr 3 rs) (hk1 : -9223372036854775808 <= kk) (hk2 : kk <= 9223372036854775807) (hd1 : -9223372036854775808 <= step) (hd2 : step <= 9223372036854775807) (hn1 : -9223372036854775808 <= N) (hn2 : N <= 9223372036854775807) :
    Calls Tryz.prog 21 #[.agg #[.int .i64 s.t,.int .i64 s.p0,.int .i64 s.p1,.int .i64 s.p2,.int .i64 s.v0,.int .i64 s.v1,.int .i64 s.v2],.slice A n c,.int .i64 kk,.int .i64 step,.int .i64 N] w (LinePost rs s kk step N w):=by
 have h9 : 1 <= 9:=by omega
 obtain ⟨W0,hW0,hB0,⟨q0,q1,q2⟩,s0⟩:=Zbm w 46 #[.int .i64 s.t,.int .i64 s.p0,.int .i64 s.p1,.int .i64 s.p2,.int .i64 s.v0,.int .i64 s.v1,.int .i64 s.v2] 47 #[.slice none 0 0] 30 #[.int .i64 0];obtain ⟨E,hE⟩ : ∃ E,stE s = E:=⟨_,rfl⟩;have hCk:=Za (fun W=>Zkl s W);have hDr:=Za (fun W1 (hb : Below w.heap.size w W1)=>Zfa A n c rs kk W1 (h.below hb) hF hk1 hk2);have hMS:=Za (fun d (h0 : Zb7 rs kk = 0) (ha : -9223372036854775808 <= d) (hb : d <= 9223372036854775807)=>Zk0 (d:=d) h hf h0 ha hb);obtain ⟨c0,c1,c2,c3,c4,c5,c6⟩:=Zaf q0;clear h hF;have hq:=Za (And.intro q0 (And.intro q1 q2));clear q0 q1 q2;replace hW0:=Za hW0;replace hB0:=Za hB0;replace hE:=Za hE;refine (callsIn_wide (n:=9)).1 ?_;refine callsIn_of_wp_marks Tryz.func21 rfl trivial ?_ rfl;simp only [Tryz.ntmps21,List.size_toArray,List.length_cons,List.length_nil,Nat.reduceAdd,Nat.reduceSub,Array.replicate_succ,Array.replicate_zero,List.push_toArray,List.append_toArray,List.nil_append,List.cons_append];have hW0':=hW0.out
 gi_wp2_with fail
 clear hW0 hW0';refine ⟨trivial,?_⟩;refine (callsIn_wide.2 (hCk.out W0)).mono ?_;rintro e w1 ⟨rfl,hb1⟩;rw [hE.out];obtain ⟨q0,q1,q2⟩:=hq.out;replace q0:=Zb hb1 q0;replace q1:=Zb hb1 q1;replace q2:=Zb hb1 q2;have hB1:=hB0.out.trans (hb1.mono hB0.out.size);clear hq hB0 hb1 c0 c1 c2 c3 c4 c5 c6;obtain ⟨r0,r1⟩ : w1.cell? ⟨w.heap.size + 1,0,none⟩ = some (.slice none 0 0) /\ w1.cell? ⟨w.heap.size + 1 + 1,0,none⟩ = some (.int .i64 0):=⟨q1.cell 0,q2.cell 0⟩;obtain ⟨f0,f1⟩ : w1.frozen? ⟨w.heap.size + 1,0,none⟩ = false /\ w1.frozen? ⟨w.heap.size + 1 + 1,0,none⟩ = false:=⟨q1.frozen 0,q2.frozen 0⟩
 by_cases h0 : E = 0
 case neg =>
  have t0 : (E == 0) = false:=by simpa using h0
  have t0' : decide (E = 0) = false:=by simpa using h0
  have t0'' : (E != 0) = true:=by rw [bne,t0];rfl
  have hM:=Za (Zpv (rs:=rs) (k:=kk) (step:=step) (n:=N) hE.out h0);replace h0:=Za h0;have hqq:=Za (And.intro hB1 (And.intro q1 q2));clear hB1 q1 q2 q0
  gi_wp2_with fail
  exact Zd4 hM.out h0.out hqq.out.1 hqq.out.2.1 hqq.out.2.2 rfl rfl
 subst h0;have hq:=Za (And.intro q0 (And.intro q1 q2));obtain ⟨c0,c1,c2,c3,c4,c5,c6⟩:=Zaf (show Blk w1 w.heap.size 46 #[.int .i64 s.t,.int .i64 s.p0,.int .i64 s.p1,.int .i64 s.p2,.int .i64 s.v0,.int .i64 s.v1,.int .i64 s.v2] from q0);clear q0 q1 q2;replace hB1:=Za hB1
 gi_wp2_with fail
 refine ⟨trivial,?_⟩;refine (callsIn_wide.2 (hDr.out w1 hB1.out)).mono ?_;rintro e w2 ⟨hb2,hcase⟩;obtain ⟨q0,q1,q2⟩:=hq.out;replace q0:=Zb hb2 q0;replace q1:=Zb hb2 q1;replace q2:=Zb hb2 q2;have hB2:=hB1.out.trans (hb2.mono hB1.out.size);clear hq hB1 hb2 c0 c1 c2 c3 c4 c5 c6 r0 r1 f0 f1;obtain ⟨r0,r1⟩ : w2.cell? ⟨w.heap.size + 1,0,none⟩ = some (.slice none 0 0) /\ w2.cell? ⟨w.heap.size + 1 + 1,0,none⟩ = some (.int .i64 0):=⟨q1.cell 0,q2.cell 0⟩;obtain ⟨f0,f1⟩ : w2.frozen? ⟨w.heap.size + 1,0,none⟩ = false /\ w2.frozen? ⟨w.heap.size + 1 + 1,0,none⟩ = false:=⟨q1.frozen 0,q2.frozen 0⟩
 rcases hcase with ⟨hd0,A2,cA2,rfl,hFL⟩ | ⟨hdn,rfl⟩
 case inr =>
  obtain ⟨D,hD⟩ : ∃ D,Zb7 rs kk = D:=⟨_,rfl⟩;rw [hD] at hdn;rw [hD]
  have t0 : (D == 0) = false:=by simpa using hdn
  have t0' : decide (D = 0) = false:=by simpa using hdn
  have t0'' : (D != 0) = true:=by rw [bne,t0];rfl
  have hM:=Za (Zmo (step:=step) (n:=N) hE.out hD hdn);replace hdn:=Za hdn;replace hD:=Za hD;have hqq:=Za (And.intro hB2 (And.intro q1 q2));clear hB2 q1 q2 q0
  gi_wp2_with fail
  exact Zd4 hM.out hdn.out hqq.out.1 hqq.out.2.1 hqq.out.2.2 rfl rfl
 have hcap:=hFL.cap;unfold maxLen at hcap
 by_cases harg : 1 <= step /\ step <= 1125899906842624 /\ 0 <= N /\ N <= 20
 case neg =>
  have hM:=Za (Znb (n:=N) (step:=step) hE.out hd0 harg);have hqq:=Za (And.intro hB2 (And.intro q1 q2));clear hB2 q1 q2 q0 hFL hd0
  by_cases g1 : step < 1
  ·have t1 : decide (step < 1) = true:=decide_eq_true g1
   clear harg
   gi_wp2_with fail
   exact Zd4 hM.out (by decide) hqq.out.1 hqq.out.2.1 hqq.out.2.2 rfl rfl
  have t1 : decide (step < 1) = false:=decide_eq_false g1
  by_cases g2 : 1125899906842624 < step
  ·have t2 : decide (1125899906842624 < step) = true:=decide_eq_true g2
   clear harg
   gi_wp2_with fail
   exact Zd4 hM.out (by decide) hqq.out.1 hqq.out.2.1 hqq.out.2.2 rfl rfl
  have t2 : decide (1125899906842624 < step) = false:=decide_eq_false g2
  by_cases g3 : N < 0
  ·have t3 : decide (N < 0) = true:=decide_eq_true g3
   clear harg
   gi_wp2_with fail
   exact Zd4 hM.out (by decide) hqq.out.1 hqq.out.2.1 hqq.out.2.2 rfl rfl
  have t3 : decide (N < 0) = false:=decide_eq_false g3;have t4 : decide (20 < N) = true:=decide_eq_true (by omega);clear harg
  gi_wp2_with fail
  exact Zd4 hM.out (by decide) hqq.out.1 hqq.out.2.1 hqq.out.2.2 rfl rfl
 have hM:=Za (Zn3 (n:=N) (step:=step) hE.out hd0 harg);obtain ⟨g1,g2,g3,g4⟩:=harg;obtain ⟨m,hn⟩ : ∃ m : Nat,N = m:=⟨N.toNat,by omega⟩;subst hn;rw [Int.toNat_natCast] at hM
 have hn20 : m <= 20:=by omega
 have t1 : decide (step < 1) = false:=decide_eq_false (by omega);have t2 : decide (1125899906842624 < step) = false:=decide_eq_false (by omega);have t3 : decide ((m : Int) < 0) = false:=decide_eq_false (by omega);have t4 : decide (20 < (m : Int)) = false:=decide_eq_false (by omega);have t4' : decide (20 < m) = false:=decide_eq_false (by omega)
 have hMS2 : Hid (∀ k,k <= 2 * m -> Zjo (Zf4 rs kk) (Zb6 m step k)):=Za (fun k hk=>by
  obtain ⟨b1,b2⟩:=Zei hn20 g1 g2 hk
  exact hMS.out _ hd0 (by omega) (by omega))
 obtain ⟨dir,hdir⟩ : ∃ dir,Zf4 rs kk = dir:=⟨_,rfl⟩;replace hFL : FL w2 A2 6 cA2 (Zf4 rs kk):=hFL;rw [hdir] at hFL hMS2 hM;replace hdir:=Za hdir;replace hd0:=Za hd0;obtain ⟨iS,hi,hz0,hz1,hz2⟩:=info_parts Ztn;obtain ⟨c0,c1,c2,c3,c4,c5,c6⟩:=Zaf (show Blk w2 w.heap.size 46 #[.int .i64 s.t,.int .i64 s.p0,.int .i64 s.p1,.int .i64 s.p2,.int .i64 s.v0,.int .i64 s.v1,.int .i64 s.v2] from q0);have hsz2:=hB2.size;have hFL':=Za hFL;have hq:=Za (And.intro q0 (And.intro q1 q2));replace hB2:=Za hB2;clear q0 q1 q2 hFL hDr hCk hMS;obtain ⟨w3,hmk,hown,hgr⟩:=run_make_own (P:=Tryz.prog) w2 w.heap.size 47 46 iS _ 7 Tryz.underlying47 hi hz0 hz1 .i64 .i64 (2 * m + 1) (by rw [hz2];omega) (by unfold maxLen;omega) hsz2;rw [show ((2 * m + 1 : Nat) : Int) = 2 * (m : Int) + 1 by omega] at hmk;obtain ⟨q0,q1,q2⟩:=hq.out
 have hnk : ∀ r,(none : Option Nat) = some r -> ∃ o : Obj,w2.heap[r]? = some o /\ o.isCells = false:=fun r e=>by cases e
 have hl22 : w.heap.size + 1 + 1 < w2.heap.size:=q2.lt;replace q0:=Zbl q0 hgr hnk;replace q1:=Zbl q1 hgr hnk;replace q2:=Zbl q2 hgr hnk;have hB23 : Below w2.heap.size w2 w3:=(Below.refl _ _).grown hgr (Nat.le_refl _) (fun k e=>by cases e);have hl2:=q2.lt;have hB3 : Below w.heap.size w w3:=hB2.out.grown hgr hsz2 (fun k e=>by cases e);obtain ⟨V1,hV1,hBV1,bx1,-,kb1,sV1⟩:=Z5 47 #[.slice (some ⟨w2.heap.size,0,none⟩) 0 (2 * m + 1)] hB3 hB3.size;replace q0:=kb1 _ _ _ q0;replace q1:=kb1 _ _ _ q1;replace q2:=kb1 _ _ _ q2
 have hA1 : Below w3.heap.size w3 V1:=by rw [<- hV1];exact (Below.refl _ _).alloc (Nat.le_refl _) _
 replace hB23:=Za (hB23.trans (hA1.mono hB23.size));have hown1:=Za (hown.kept (World.grownBy_alloc w3 (.cells #[.slice (some ⟨w2.heap.size,0,none⟩) 0 (2 * m + 1)] 47) none) (.inr (by simp [Value.ownBlock])));rw [hV1] at hown1;obtain ⟨g15,hg15⟩ : ∃ g,w3.heap.size = g:=⟨_,rfl⟩;rw [hg15] at bx1 sV1
 have hg2 : w2.heap.size < g15:=by
  rcases hown.2 with ⟨e,_⟩ | ⟨g,_,_,e,_,hgb,_⟩
  ·cases e
  ·cases e
   rw [<- hg15];exact (Array.getElem?_eq_some_iff.1 hgb).1
 clear c0 c1 c2 c3 c4 c5 c6 hq hB2 kb1 hA1 hown hgr hnk;obtain ⟨c0,c1,c2,c3,c4,c5,c6⟩:=Zaf (show Blk V1 w.heap.size 46 #[.int .i64 s.t,.int .i64 s.p0,.int .i64 s.p1,.int .i64 s.p2,.int .i64 s.v0,.int .i64 s.v1,.int .i64 s.v2] from q0);have hq:=Za (And.intro q0 (And.intro q1 (And.intro q2 bx1)))
 have hsV : w.heap.size + 1 + 1 < g15:=by omega
 clear q0 q1 q2 bx1;replace hB3:=Za hB3;replace hBV1:=Za hBV1
 gi_wp2_with fail
 (try rw [hV1]);(try rw [hg15]);refine ⟨trivial,?_⟩;refine (callsIn_wide.2 (Zry s A2 6 cA2 step m V1)).mono ?_;rintro e w4 ⟨rfl,hw4⟩;clear c0 c1 c2 c3 c4 c5 c6;obtain ⟨q0,q1,q2,bx⟩:=hq.out
 have hb4 : Below V1.heap.size V1 w4:=by rw [hw4];exact (((((Below.refl _ _).alloc (Nat.le_refl _) _).alloc (by simp) _).alloc (by simp;omega) _).alloc (by simp;omega) _)
 have p0 : Blk w4 V1.heap.size 46 s.cells:=by rw [hw4];exact (((Blk.new _ _ _).alloc _).alloc _).alloc _
 have p1 : Blk w4 (V1.heap.size + 1) 23 #[.slice A2 6 cA2]:=by
  rw [hw4,show V1.heap.size + 1 = (V1.alloc (.cells #[.int .i64 s.t,.int .i64 s.p0,.int .i64 s.p1,.int .i64 s.p2,.int .i64 s.v0,.int .i64 s.v1,.int .i64 s.v2] 46)).heap.size by simp];exact ((Blk.new _ _ _).alloc _).alloc _
 have p2 : Blk w4 (V1.heap.size + 1 + 1) 2 #[.int .i64 step]:=by
  rw [hw4,show V1.heap.size + 1 + 1 = ((V1.alloc (.cells #[.int .i64 s.t,.int .i64 s.p0,.int .i64 s.p1,.int .i64 s.p2,.int .i64 s.v0,.int .i64 s.v1,.int .i64 s.v2] 46)).alloc (.cells #[.slice A2 6 cA2] 23)).heap.size by simp];exact (Blk.new _ _ _).alloc _
 have p3 : Blk w4 (V1.heap.size + 1 + 1 + 1) 3 #[.int .i64 m]:=by
  rw [hw4,show V1.heap.size + 1 + 1 + 1 = (((V1.alloc (.cells #[.int .i64 s.t,.int .i64 s.p0,.int .i64 s.p1,.int .i64 s.p2,.int .i64 s.v0,.int .i64 s.v1,.int .i64 s.v2] 46)).alloc (.cells #[.slice A2 6 cA2] 23)).alloc (.cells #[.int .i64 step] 2)).heap.size by simp];exact Blk.new _ _ _
 have hrow:=hown1.out.kept (Zec hb4) (.inr (by simp [Value.ownBlock]));have hP : StpS w2 (V1.heap.size + 1 + 1 + 1) V1.heap.size (V1.heap.size + 1) (V1.heap.size + 1 + 1) m A2 cA2 s step w4:=⟨⟨p3.cell 0,p0,p1.cell 0,p2.cell 0⟩,(hB23.out.trans (hb4.mono (by have:=hB23.out.size;omega)))⟩;replace q0:=Zb hb4 q0;replace q1:=Zb hb4 q1;replace q2:=Zb hb4 q2;replace bx : Boxed w4 g15 47 _:=Zb hb4 bx;have hB4:=hBV1.out.trans (hb4.mono hBV1.out.size);obtain ⟨b,hb⟩ : ∃ b,V1.heap.size = b:=⟨_,rfl⟩
 have hszb : w4.heap.size = b + 4:=by rw [hw4];simp;omega
 rw [hb] at hP hb4 sV1 ⊢;clear hw4 hB23 hown1 hBV1 hB3 hq p0 p1 p2 p3 hb hV1
 have hlw4 : w.heap.size <= w4.heap.size:=by omega
 have hgb : g15 < b:=by omega
 have hw24 : w2.heap.size <= w4.heap.size:=by omega
 replace sV1:=Za sV1;replace hszb:=Za hszb
 gi_wp2
 refine wpIn_rangeFunc_ownH rfl h9 (gf:=140) (lb:=#[.pointer (some ⟨b + 1 + 1 + 1,0,none⟩),.pointer (some ⟨b,0,none⟩),.pointer (some ⟨b + 1,0,none⟩),.pointer (some ⟨b + 1 + 1,0,none⟩)]) rfl trivial (enters_of Tryz.func140 (by kernel_rfl) rfl)
  (Zm6 w2 8 (by omega) (b + 1 + 1 + 1) b (b + 1) (b + 1 + 1) m A2 cA2 s dir step hn20 g1 g2 hFL'.out hMS2.out w4 hP) KpS.trans (fun W l o o' hl h hc _=>KpS.put W l o o' (by omega) h hc) (Below.refl _ _) (fun _=>rfl)
  (fun pre W=>(((((∃ v,Boxed W g15 47 v /\ W.ownsRow w.heap.size 46 7 v pre.length (flatK dir s step m pre) /\ v = (.slice (some ⟨w2.heap.size,0,none⟩) pre.length (2 * m + 1))) /\ Blk W (w.heap.size + 1) 47 #[.slice none 0 0]) /\ Blk W (w.heap.size + 1 + 1) 30 #[.int .i64 0]) /\ ∀ k ∈ pre,movE s dir (Zb6 m step k) = 0)) /\ Below w.heap.size w W)
  (fun c pre W=>(((c = .ret /\ ∃ k ∈ pre,movE s dir (Zb6 m step k) ≠ 0) /\ Blk W (w.heap.size + 1) 47 #[.slice none 0 0]) /\ Blk W (w.heap.size + 1 + 1) 30 #[.int .i64 24]) /\ Below w.heap.size w W)
  (OwnFrom.and (OwnFrom.and (OwnFrom.and (OwnFrom.and (Own.from (holdsRow_own _ _ _ _ _ (fun pre=>pre.length) (fun pre=>flatK dir s step m pre) (fun pre v=>v = (.slice (some ⟨w2.heap.size,0,none⟩) pre.length (2 * m + 1)))) _) (Own.from (fun s X Y row hs hg hr=>Zbl hs hg hr) _)) (Own.from (fun s X Y row hs hg hr=>Zbl hs hg hr) _)) (ownFrom_pure _ _)) (ownFrom_below (Nat.le_refl _) hlw4))
  (fun c=>OwnFrom.and (OwnFrom.and (OwnFrom.and (ownFrom_pure _ _) (Own.from (fun s X Y row hs hg hr=>Zbl hs hg hr) _)) (Own.from (fun s X Y row hs hg hr=>Zbl hs hg hr) _)) (ownFrom_below (Nat.le_refl _) hlw4))
  ⟨⟨⟨⟨⟨_,bx,hrow,rfl⟩,q1⟩,q2⟩,fun k hk=>(by cases hk)⟩,hB4⟩
  (fun x a' W=>∃ gA,a' = { tmps:=#[.agg #[.int .i64 s.t,.int .i64 s.p0,.int .i64 s.p1,.int .i64 s.p2,.int .i64 s.v0,.int .i64 s.v1,.int .i64 s.v2],.slice A n c,.int .i64 kk,.int .i64 step,.int .i64 m,.pointer (some ⟨w.heap.size,0,none⟩),undef,undef,undef,undef,.pointer (some ⟨w.heap.size + 1,0,none⟩),.pointer (some ⟨w.heap.size + 1 + 1,0,none⟩),.int .i64 0,.slice A2 6 cA2,.int .i64 0,.pointer (some ⟨g15,0,none⟩),.pointer (some ⟨gA,0,none⟩),.int .i64 (movE s dir (Zb6 m step x)),.agg #[.int .i64 s.t,.int .i64 s.p0,.int .i64 s.p1,.int .i64 s.p2,.int .i64 s.v0,.int .i64 s.v1,.int .i64 s.v2],.int .i64 0,.int .i64 0,.bool false,undef,.tuple #[.slice A2 6 cA2,.int .i64 0],.slice A n c,.int .i64 kk,.tuple #[.slice A2 6 cA2,.int .i64 0],.slice A2 6 cA2,.int .i64 0,.int .i64 0,.bool false,undef,.int .i64 step,.bool false,.bool false,.int .i64 step,.bool false,.bool false,.bool false,.int .i64 m,.bool false,.bool false,.bool false,.int .i64 m,.bool false,.bool false,.int .i64 m,.int .i64 (2 * m),.int .i64 (2 * m + 1),.slice (some ⟨w2.heap.size,0,none⟩) 0 (2 * m + 1),.agg #[.int .i64 s.t,.int .i64 s.p0,.int .i64 s.p1,.int .i64 s.p2,.int .i64 s.v0,.int .i64 s.v1,.int .i64 s.v2],.slice A2 6 cA2,.int .i64 step,.int .i64 m,.func (.func 140) #[] #[.pointer (some ⟨b + 1 + 1 + 1,0,none⟩),.pointer (some ⟨b,0,none⟩),.pointer (some ⟨b + 1,0,none⟩),.pointer (some ⟨b + 1 + 1,0,none⟩)],.agg (movV s dir (Zb6 m step x)).cells,.int .i64 (movE s dir (Zb6 m step x)),undef,undef,undef,undef,undef,undef,undef,undef],defers:=[] } /\ Blk W gA 46 (movV s dir (Zb6 m step x)).cells)
  (fun x a'=>Own.from (fun s X Y row hs hg hr=>by
   obtain ⟨gA,e1,e2⟩:=hs
   exact ⟨gA,e1,Zbl e2 hg hr⟩) _) ?assign ?body ?done ?stop
 case assign =>
  intro l pre x W K hI hK;obtain ⟨⟨⟨⟨⟨v,hv,hr,rfl⟩,k1⟩,k2⟩,hz⟩,hBW⟩:=hI
  have hfin : ∀ Vm Em,movV s dir (Zb6 m step x) = Vm -> movE s dir (Zb6 m step x) = Em -> K { tmps:=#[.agg #[.int .i64 s.t,.int .i64 s.p0,.int .i64 s.p1,.int .i64 s.p2,.int .i64 s.v0,.int .i64 s.v1,.int .i64 s.v2],.slice A n c,.int .i64 kk,.int .i64 step,.int .i64 m,.pointer (some ⟨w.heap.size,0,none⟩),undef,undef,undef,undef,.pointer (some ⟨w.heap.size + 1,0,none⟩),.pointer (some ⟨w.heap.size + 1 + 1,0,none⟩),.int .i64 0,.slice A2 6 cA2,.int .i64 0,.pointer (some ⟨g15,0,none⟩),.pointer (some ⟨W.heap.size,0,none⟩),.int .i64 Em,.agg #[.int .i64 s.t,.int .i64 s.p0,.int .i64 s.p1,.int .i64 s.p2,.int .i64 s.v0,.int .i64 s.v1,.int .i64 s.v2],.int .i64 0,.int .i64 0,.bool false,undef,.tuple #[.slice A2 6 cA2,.int .i64 0],.slice A n c,.int .i64 kk,.tuple #[.slice A2 6 cA2,.int .i64 0],.slice A2 6 cA2,.int .i64 0,.int .i64 0,.bool false,undef,.int .i64 step,.bool false,.bool false,.int .i64 step,.bool false,.bool false,.bool false,.int .i64 m,.bool false,.bool false,.bool false,.int .i64 m,.bool false,.bool false,.int .i64 m,.int .i64 (2 * m),.int .i64 (2 * m + 1),.slice (some ⟨w2.heap.size,0,none⟩) 0 (2 * m + 1),.agg #[.int .i64 s.t,.int .i64 s.p0,.int .i64 s.p1,.int .i64 s.p2,.int .i64 s.v0,.int .i64 s.v1,.int .i64 s.v2],.slice A2 6 cA2,.int .i64 step,.int .i64 m,.func (.func 140) #[] #[.pointer (some ⟨b + 1 + 1 + 1,0,none⟩),.pointer (some ⟨b,0,none⟩),.pointer (some ⟨b + 1,0,none⟩),.pointer (some ⟨b + 1 + 1,0,none⟩)],.agg Vm.cells,.int .i64 Em,undef,undef,undef,undef,undef,undef,undef,undef],defers:=[] } (W.alloc (.cells Vm.cells 46)):=fun Vm Em e1 e2=>by
   subst e1 e2;exact hK _ _ ((KeepsOthers.alloc _ _).from _) (fun h=>h.below ((Below.refl _ _).alloc (Nat.le_refl _) _)) ⟨⟨⟨⟨⟨_,hv.alloc _,hr.alloc _,rfl⟩,k1.alloc _⟩,k2.alloc _⟩,hz⟩,hBW.alloc hBW.size _⟩ ⟨W.heap.size,rfl,Blk.new _ _ _⟩
  clear hK;dsimp only [encStep];obtain ⟨Vm,hVm⟩ : ∃ V,movV s dir (Zb6 m step x) = V:=⟨_,rfl⟩;obtain ⟨Em,hEm⟩ : ∃ V,movE s dir (Zb6 m step x) = V:=⟨_,rfl⟩;replace hfin:=hfin Vm Em hVm hEm;rw [hVm,hEm];clear hVm hEm hv hr k1 k2 hz hBW;dsimp only [St.cells] at hfin ⊢
  gi_wp2
  exact hfin
 case body =>
  rintro l pre x a' W hlw hrl ⟨⟨⟨⟨⟨v,hv,hr,rfl⟩,k1⟩,k2⟩,hz⟩,hBW⟩ ⟨gA,rfl,kA⟩ hpre;obtain ⟨Vm,hVm⟩ : ∃ V,movV s dir (Zb6 m step x) = V:=⟨_,rfl⟩;obtain ⟨Em,hEm⟩ : ∃ V,movE s dir (Zb6 m step x) = V:=⟨_,rfl⟩;rw [hVm] at kA;rw [hVm,hEm];have hc15:=hv.cell;obtain ⟨x0,x1,x2,x3,x4,x5,x6⟩:=Zaf kA;obtain ⟨r0,r1⟩ : W.cell? ⟨w.heap.size + 1,0,none⟩ = some (.slice none 0 0) /\ W.cell? ⟨w.heap.size + 1 + 1,0,none⟩ = some (.int .i64 0):=⟨k1.cell 0,k2.cell 0⟩;obtain ⟨f0,f1⟩ : W.frozen? ⟨w.heap.size + 1,0,none⟩ = false /\ W.frozen? ⟨w.heap.size + 1 + 1,0,none⟩ = false:=⟨k1.frozen 0,k2.frozen 0⟩;dsimp only [St.cells]
  by_cases h0 : Em = 0
  case neg =>
   have h24 : Em = 24:=by
    rcases Zti s dir (Zb6 m step x) with h | h
    ·rw [hEm] at h;exact absurd h h0
    ·rw [hEm] at h;exact h
   subst h24;clear h0 hVm;replace hEm:=Za hEm;have KO : KeepsFrom w4.heap.size W ((W.setCell ⟨w.heap.size + 1,0,none⟩ (.slice none 0 0)).setCell ⟨w.heap.size + 1 + 1,0,none⟩ (.int .i64 24)):=((KeepsOthers.setCell _ _ _).trans (KeepsOthers.setCell _ _ _)).from _;have n1 : Blk (W.setCell ⟨w.heap.size + 1,0,none⟩ (.slice none 0 0)) (w.heap.size + 1) _ #[.slice none 0 0]:=k1.set_ 0 (.slice none 0 0);have n2 : Blk (W.setCell ⟨w.heap.size + 1,0,none⟩ (.slice none 0 0)) (w.heap.size + 1 + 1) _ #[.int .i64 0]:=k2.far (by simp) _;have n3 : Blk ((W.setCell ⟨w.heap.size + 1,0,none⟩ (.slice none 0 0)).setCell ⟨w.heap.size + 1 + 1,0,none⟩ (.int .i64 24)) (w.heap.size + 1) _ #[.slice none 0 0]:=n1.far (by simp) _;have n4 : Blk ((W.setCell ⟨w.heap.size + 1,0,none⟩ (.slice none 0 0)).setCell ⟨w.heap.size + 1 + 1,0,none⟩ (.int .i64 24)) (w.heap.size + 1 + 1) _ #[.int .i64 24]:=n2.set_ 0 (.int .i64 24);have hB2 : Below w.heap.size w ((W.setCell ⟨w.heap.size + 1,0,none⟩ (.slice none 0 0)).setCell ⟨w.heap.size + 1 + 1,0,none⟩ (.int .i64 24)):=(hBW.setCell (p:=⟨w.heap.size + 1,0,none⟩) (Nat.le_succ _) _).setCell (p:=⟨w.heap.size + 1 + 1,0,none⟩) (Nat.le_trans (Nat.le_succ _) (Nat.le_succ _)) _
   gi_wp2
   exact ⟨KO,⟨⟨⟨rfl,x,by simp,by rw [hEm.out];decide⟩,n3⟩,n4⟩,hB2⟩
  subst h0
  have hflat : flatK dir s step m (pre ++ [x]) = flatK dir s step m pre ++ [.int .i64 Vm.t,.int .i64 Vm.p0,.int .i64 Vm.p1,.int .i64 Vm.p2,.int .i64 Vm.v0,.int .i64 Vm.v1,.int .i64 Vm.v2]:=by rw [Zox,hVm];rfl
  replace hflat:=Za hflat;replace hEm:=Za hEm;replace hVm:=Za hVm;have hWs:=hBW.size;have hlt1:=k1.lt;have hlt2:=k2.lt
  gi_wp2_with (gi_at_builtin;refine wpListIn_append_fits _ rfl _ _ 47 rfl w.heap.size 46 iS 7 Tryz.underlying47 hi hz1 w2.heap.size pre.length (2 * m + 1) _ rfl (hr.alloc _) ⟨W.heap.size,0,none⟩ 1 1 [.int .i64 Vm.t,.int .i64 Vm.p0,.int .i64 Vm.p1,.int .i64 Vm.p2,.int .i64 Vm.v0,.int .i64 Vm.v1,.int .i64 Vm.v2] rfl rfl (Zik W #[.int .i64 Vm.t,.int .i64 Vm.p0,.int .i64 Vm.p1,.int .i64 Vm.p2,.int .i64 Vm.v0,.int .i64 Vm.v1,.int .i64 Vm.v2] _) (by simp [Value.oneCell']) (by omega) ?_;intro w1 hown' hgrow;obtain ⟨hv1,hv2,hr2,hk2,hb2⟩:=hv.appended (by decide) hr hWs (by omega) hown' hgrow;have hc1:=hv1.cell;have hf1:=hv1.frozen)
  have ho : ∀ g,g < W.heap.size -> g ≠ w2.heap.size -> g ≠ g15 -> (w1.setCell ⟨g15,0,none⟩ (.slice (some ⟨w2.heap.size,0,none⟩) (pre.length + 1) (2 * m + 1))).heap[g]? = W.heap[g]?:=fun g hl h1 h2=>Zrz hgrow hl h1 h2
  have hbW : w2.heap.size <= W.heap.size -> Below w2.heap.size W (w1.setCell ⟨g15,0,none⟩ (.slice (some ⟨w2.heap.size,0,none⟩) (pre.length + 1) (2 * m + 1))):=fun hs=>(((Below.refl w2.heap.size W).alloc hs _).grown hgrow (by simp;omega) (fun k e=>by cases e;exact Nat.le_refl _)).setCell (p:=⟨g15,0,none⟩) (Nat.le_of_lt hg2) _
  refine ⟨hk2.from _,fun h=>⟨⟨?_,?_,?_,?_⟩,h.2.trans (hbW h.2.size)⟩,⟨⟨⟨⟨_,hv2,?_,?_⟩,?_⟩,?_⟩,?_⟩,hBW.trans hb2⟩
  ·exact (World.cell?_of_block (ho _ (Zs h.1.1) (by simp only;omega) (by simp only;omega))).trans h.1.1
  ·exact (ho _ h.1.2.1.lt (by omega) (by omega)).trans h.1.2.1
  ·exact (World.cell?_of_block (ho _ (Zs h.1.2.2.1) (by simp only;omega) (by simp only;omega))).trans h.1.2.2.1
  ·exact (World.cell?_of_block (ho _ (Zs h.1.2.2.2) (by simp only;omega) (by simp only;omega))).trans h.1.2.2.2
  ·rw [show (pre ++ [x]).length = pre.length + 1 by simp,hflat.out];exact hr2
  ·simp
  ·exact (ho _ hlt1 (by omega) (by omega)).trans k1
  ·exact (ho _ hlt2 (by omega) (by omega)).trans k2
  ·intro k hk
   rcases List.mem_append.1 hk with hk | hk
   ·exact hz k hk
   ·rw [List.mem_singleton] at hk;subst hk;exact hEm.out
 case done =>
  rintro D ys W hD rfl ⟨⟨⟨⟨⟨v,hv,hr,rfl⟩,k1⟩,k2⟩,hz⟩,hBW⟩ hK;rw [List.length_range] at hr hv
  have hSL : ∀ Z : World,Z.ownsRow w.heap.size 46 7 (.slice (some ⟨w2.heap.size,0,none⟩) (2 * m + 1) (2 * m + 1)) (2 * m + 1) (flatK dir s step m (List.range (2 * m + 1))) -> SL Z (some ⟨w2.heap.size,0,none⟩) (2 * m + 1) (2 * m + 1) (lineS dir s step m):=fun Z hZ=>by
   have e1 : (lineS dir s step m).length = 2 * m + 1:=by simp [lineS]
   have e2 : ((lineS dir s step m).flatMap fun s=>s.cells.toList) = flatK dir s step m (List.range (2 * m + 1)):=by
    unfold lineS flatK;rw [List.flatMap_map]
   obtain ⟨A5,c5,e5,h5⟩:=Zr8 (w:=Z) (base:=w.heap.size) (ss:=lineS dir s step m) (by rw [e1,e2];exact hZ) (by rw [e1];omega);rw [e1] at e5 h5
   cases e5
   exact h5
  have hEok : Hid (lineE rs s kk step m = 0):=Za (by rw [hM.out];exact Zm8 (fun j hj=>hz j (List.mem_range.2 (by omega))));have hc15:=hv.cell;obtain ⟨r0,r1⟩ : W.cell? ⟨w.heap.size + 1,0,none⟩ = some (.slice none 0 0) /\ W.cell? ⟨w.heap.size + 1 + 1,0,none⟩ = some (.int .i64 0):=⟨k1.cell 0,k2.cell 0⟩;obtain ⟨f0,f1⟩ : W.frozen? ⟨w.heap.size + 1,0,none⟩ = false /\ W.frozen? ⟨w.heap.size + 1 + 1,0,none⟩ = false:=⟨k1.frozen 0,k2.frozen 0⟩;have hr2:=(hr.kept (grownBy_setCell' W (w.heap.size + 1) (.slice (some ⟨w2.heap.size,0,none⟩) (2 * m + 1) (2 * m + 1))) (.inr (by simp [Value.ownBlock];omega))).kept (grownBy_setCell' _ (w.heap.size + 1 + 1) (.int .i64 0)) (.inr (by simp [Value.ownBlock];omega));have KO : KeepsOthers W ((W.setCell ⟨w.heap.size + 1,0,none⟩ (.slice (some ⟨w2.heap.size,0,none⟩) (2 * m + 1) (2 * m + 1))).setCell ⟨w.heap.size + 1 + 1,0,none⟩ (.int .i64 0)):=(KeepsOthers.setCell _ _ _).trans (KeepsOthers.setCell _ _ _);have n1 : Blk (W.setCell ⟨w.heap.size + 1,0,none⟩ (.slice (some ⟨w2.heap.size,0,none⟩) (2 * m + 1) (2 * m + 1))) (w.heap.size + 1) _ #[(.slice (some ⟨w2.heap.size,0,none⟩) (2 * m + 1) (2 * m + 1))]:=k1.set_ 0 (.slice (some ⟨w2.heap.size,0,none⟩) (2 * m + 1) (2 * m + 1));have n2 : Blk (W.setCell ⟨w.heap.size + 1,0,none⟩ (.slice (some ⟨w2.heap.size,0,none⟩) (2 * m + 1) (2 * m + 1))) (w.heap.size + 1 + 1) _ #[.int .i64 0]:=k2.far (by simp) _
  have n3 : Blk ((W.setCell ⟨w.heap.size + 1,0,none⟩ (.slice (some ⟨w2.heap.size,0,none⟩) (2 * m + 1) (2 * m + 1))).setCell ⟨w.heap.size + 1 + 1,0,none⟩ (.int .i64 0)) (w.heap.size + 1) _ #[(.slice (some ⟨w2.heap.size,0,none⟩) (2 * m + 1) (2 * m + 1))]:=n1.far (by simp) _;have n4 : Blk ((W.setCell ⟨w.heap.size + 1,0,none⟩ (.slice (some ⟨w2.heap.size,0,none⟩) (2 * m + 1) (2 * m + 1))).setCell ⟨w.heap.size + 1 + 1,0,none⟩ (.int .i64 0)) (w.heap.size + 1 + 1) _ #[.int .i64 0]:=n2.set_ 0 (.int .i64 0);have hB2 : Below w.heap.size w ((W.setCell ⟨w.heap.size + 1,0,none⟩ (.slice (some ⟨w2.heap.size,0,none⟩) (2 * m + 1) (2 * m + 1))).setCell ⟨w.heap.size + 1 + 1,0,none⟩ (.int .i64 0)):=(hBW.setCell (p:=⟨w.heap.size + 1,0,none⟩) (Nat.le_succ _) _).setCell (p:=⟨w.heap.size + 1 + 1,0,none⟩) (Nat.le_trans (Nat.le_succ _) (Nat.le_succ _)) _;obtain ⟨Z,hZ⟩ : ∃ Z,((W.setCell ⟨w.heap.size + 1,0,none⟩ (.slice (some ⟨w2.heap.size,0,none⟩) (2 * m + 1) (2 * m + 1))).setCell ⟨w.heap.size + 1 + 1,0,none⟩ (.int .i64 0)) = Z:=⟨_,rfl⟩;replace hSL:=Za hSL;clear hr hv
  gi_wp2
  rw [hZ] at KO n3 n4 hB2 hr2;have hK' : Z.heap[D]? = some (.deferred (some [])):=KO.same D _ hK rfl;refine ⟨by simp,.inl ⟨_,_,rfl,run_takeDeferred hK',?_⟩⟩;have c1:=cell_kept (n3.cell 0) (grownBy_putObj' Z D (.deferred none)) (fun r e=>by cases e;exact ⟨_,hK',rfl⟩);have c2:=cell_kept (n4.cell 0) (grownBy_putObj' Z D (.deferred none)) (fun r e=>by cases e;exact ⟨_,hK',rfl⟩)
  simp at c1 c2
  have hB3 : Below w.heap.size w (Z.putObj D (.deferred none)):=hB2.trans (belowK_b (w:=w) (Nat.le_refl _) Z D _ _ (by omega) hK' rfl rfl);have hr3:=ownsRow_putObj hr2 (.deferred none) hK' rfl;refine ⟨.tuple #[(.slice (some ⟨w2.heap.size,0,none⟩) (2 * m + 1) (2 * m + 1)),.int .i64 0],by simp [results,Tryz.f21,go_sem,c1,c2],hB3,.inl ⟨hEok.out,_,_,rfl,?_⟩⟩;have h9:=hSL.out _ hr3;have hdir':=hdir.out;rw [Int.toNat_natCast,hdir'];exact h9
 case stop =>
  rintro D c pre W hD ⟨k,hk,rfl⟩ ⟨⟨⟨⟨rfl,j,hj,hne⟩,k1⟩,k2⟩,hBW⟩ hK;have hEb : Hid (lineE rs s kk step m = 24):=Za (by rw [hM.out];exact Zk6 (by have:=List.mem_range.1 hj;omega) hne);have c1':=k1.cell 0;have c2':=k2.cell 0
  gi_wp2
  refine ⟨by simp,.inl ⟨_,_,rfl,run_takeDeferred hK,?_⟩⟩;have c1:=cell_kept (k1.cell 0) (grownBy_putObj' W D (.deferred none)) (fun r e=>by cases e;exact ⟨_,hK,rfl⟩);have c2:=cell_kept (k2.cell 0) (grownBy_putObj' W D (.deferred none)) (fun r e=>by cases e;exact ⟨_,hK,rfl⟩)
  simp at c1 c2
  have hB3 : Below w.heap.size w (W.putObj D (.deferred none)):=hBW.trans (belowK_b (w:=w) (Nat.le_refl _) W D _ _ (by omega) hK rfl rfl);refine ⟨.tuple #[.slice none 0 0,.int .i64 24],by simp [results,Tryz.f21,go_sem,c1,c2],hB3,.inr ⟨by rw [hEb.out];decide,by rw [hEb.out]⟩⟩
end Go.Proofs.YtaioanjcjijckaaGreat
