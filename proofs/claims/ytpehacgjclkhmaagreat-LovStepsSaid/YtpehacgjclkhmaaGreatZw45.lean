/- Package lov: Line. Rows of Pascal's triangle (plain). -/
import Derived.RangeFuncBox
import Derived.Deep.LoopGhost
import Derived.ProofKit
import Derived.Deep.Slices
import Derived.Deep.Fields
import Derived.ChangeSame
import Derived.Test.YtpehacgjclkhmaaGreatProg
import Derived.Test.YtpehacgjclkhmaaGreatZw44
set_option maxRecDepth 100000
set_option maxHeartbeats 8000000
set_option linter.unusedSimpArgs false
set_option linter.unusedVariables false
namespace Go.Proofs.YtpehacgjclkhmaaGreat
open Go.RowKit Go.Shelf
attribute [local go_sem] Zg
attribute [local go_sem] Oper.semAt_some
def Zd0 (rs : List RX) (k : Int) : List Rat:=Zcm (Zp (qM rs)) k.toNat
def Ze8 (dir : List Rat) (s : St) (step : Int) (N : Nat) : Prop:=∀ j,j <= 2 * N -> movE s dir (Zam N step j) = 0
noncomputable def lineM (dir : List Rat) (s : St) (step : Int) (N : Nat) : Int:=@ite Int (Ze8 dir s step N) (Classical.propDecidable _) 0 24
noncomputable def lineE (rs : List RX) (s : St) (k step n : Int) : Int:=if stE s ≠ 0 then stE s else if Zb6 rs k ≠ 0 then Zb6 rs k else if 1 <= step /\ step <= 1125899906842624 /\ 0 <= n /\ n <= 20 then lineM (Zd0 rs k) s step n.toNat else 2
noncomputable def lineS (dir : List Rat) (s : St) (step : Int) (N : Nat) : List St:=(List.range (2 * N + 1)).map fun j=>movV s dir (Zam N step j)
def Zlk (rs : List RX) (s : St) (k step n : Int) (w : World) (e : Ending) (w' : World) : Prop:=
 Below w.heap.size w w' /\ ((lineE rs s k step n = 0 /\ ∃ A c,e = .returned (.tuple #[.slice A (2 * n.toNat + 1) c,.int .i64 0]) /\ SL w' A (2 * n.toNat + 1) c (lineS (Zd0 rs k) s step n.toNat)) \/ (lineE rs s k step n ≠ 0 /\ e = .returned (.tuple #[.slice none 0 0,.int .i64 (lineE rs s k step n)])))
theorem Zr2 (s : St) (dir : List Rat) (d : Int) : movE s dir d = 0 \/ movE s dir d = 24:=by
 unfold movE;split
 ·exact .inl rfl
 ·exact .inr rfl
section
variable {rs : List RX} {s : St} {k step n E : Int}
theorem Zog (h : stE s = E) (h0 : E ≠ 0) : lineE rs s k step n = E:=by subst h;exact if_pos h0
theorem Zlb (h : stE s = 0) (h1 : Zb6 rs k = E) (h0 : E ≠ 0) : lineE rs s k step n = E:=by
 subst h1;unfold lineE;rw [if_neg (by simp [h])];exact if_pos h0
theorem Zlw (h : stE s = 0) (h1 : Zb6 rs k = 0) (h2 : ¬ (1 <= step /\ step <= 1125899906842624 /\ 0 <= n /\ n <= 20)) : lineE rs s k step n = 2:=by
 unfold lineE;rw [if_neg (by simp [h]),if_neg (by simp [h1])];exact if_neg h2
theorem Zip (h : stE s = 0) (h1 : Zb6 rs k = 0) (h2 : 1 <= step /\ step <= 1125899906842624 /\ 0 <= n /\ n <= 20) : lineE rs s k step n = lineM (Zd0 rs k) s step n.toNat:=by
 unfold lineE;rw [if_neg (by simp [h]),if_neg (by simp [h1])];exact if_pos h2
theorem Zls {dir : List Rat} {N : Nat} (h : Ze8 dir s step N) : lineM dir s step N = 0:=@if_pos _ (Classical.propDecidable _) h _ _ _
theorem Zj6 {dir : List Rat} {N j : Nat} (hj : j <= 2 * N) (h : movE s dir (Zam N step j) ≠ 0) : lineM dir s step N = 24:=@if_neg _ (Classical.propDecidable _) (fun hb=>h (hb j hj)) _ _ _
end
noncomputable def flatK (dir : List Rat) (s : St) (step : Int) (N : Nat) (pre : List Nat) : List Value:=pre.flatMap fun k=>(movV s dir (Zam N step k)).cells.toList
theorem Znk (dir : List Rat) (s : St) (step : Int) (N : Nat) (pre : List Nat) (k : Nat) : flatK dir s step N (pre ++ [k]) = flatK dir s step N pre ++ (movV s dir (Zam N step k)).cells.toList:=by
 unfold flatK;rw [List.flatMap_append];simp
theorem Zhj {α : Type} {f : α -> List Value} {m : Nat} (hf : ∀ x,(f x).length = m) : ∀ (l : List α) (k i : Nat) (x : α),l[k]? = some x -> i < m -> (l.flatMap f)[k * m + i]? = (f x)[i]?
 | [],k,i,x,h,_=>by simp at h
 | y :: l,0,i,x,h,hi=>by
  obtain rfl : y = x:=by simpa using h
  rw [List.flatMap_cons,Nat.zero_mul,Nat.zero_add,List.getElem?_append_left (by rw [hf];exact hi)]
 | y :: l,k + 1,i,x,h,hi=>by
  have h' : l[k]? = some x:=by simpa using h
  rw [List.flatMap_cons,List.getElem?_append_right (by rw [hf,Nat.add_mul];omega),hf,show (k + 1) * m + i - m = k * m + i by rw [Nat.add_mul];omega];exact Zhj hf l k i x h' hi
theorem own_sl {w : World} {base : Nat} {v : Value} {ss : List St} (h : w.ownsRow base 46 7 v ss.length (ss.flatMap fun s=>s.cells.toList)) (hn : 0 < ss.length) : ∃ A c,v = .slice A ss.length c /\ SL w A ss.length c ss:=by
 rcases h.2 with ⟨_,h0⟩ | ⟨g,cap,cur,rfl,_,hg,h1,h2,h3,h4⟩
 ·omega
 refine ⟨_,_,rfl,rfl,h1,h2,fun k s hs=>?_⟩;have hk : k < ss.length:=(List.getElem?_eq_some_iff.1 hs).1
 have hc : ∀ i,i < 7 -> ∀ x,s.cells.toList[i]? = some x -> w.cell? ⟨g,k * 7 + i,none⟩ = some x:=fun i hi x hx=>by
  have e:=Zhj (f:=fun s : St=>s.cells.toList) (m:=7) (fun _=>rfl) ss k i s hs hi;rw [hx,<- h4,List.getElem?_take_of_lt (by omega),Array.getElem?_toList] at e;simp only [World.cell?,hg];exact e
 refine ⟨g,0,rfl,?_⟩;rw [Nat.zero_add];exact ⟨hc 0 (by omega) _ rfl,hc 1 (by omega) _ rfl,hc 2 (by omega) _ rfl,hc 3 (by omega) _ rfl,hc 4 (by omega) _ rfl,hc 5 (by omega) _ rfl,hc 6 (by omega) _ rfl⟩
theorem Zm6 (W : World) (cs : Array Value) (t : TypeId) : ∀ (j : Nat) (u : Value),cs.toList[j]? = some u -> (W.alloc (.cells cs t)).cell? ((⟨W.heap.size,0,none⟩ : Addr).add j) = some u:=by
 intro j u h;have h1:=(Blk.new W t cs).cell j;rw [Array.getElem?_toList] at h;rw [h] at h1
 have e : (⟨W.heap.size,0,none⟩ : Addr).add j = ⟨W.heap.size,j,none⟩:=by
  cases j with
  | zero=>rfl
  | succ j=>simp [Addr.add]
 rw [e];exact h1
theorem Zqg {W w1 : World} {gr g15 g : Nat} {tmp : Obj} {v' : Value} (hg : (W.alloc tmp).grownBy w1 (some gr)) (hl : g < W.heap.size) (h1 : g ≠ gr) (h2 : g ≠ g15) : (w1.setCell ⟨g15,0,none⟩ v').heap[g]? = W.heap[g]?:=
 (Below.heap_setCell _ _ _ g h2).trans ((hg.block g (by simp;omega) (by simpa using h1)).trans (Below.heap_alloc W _ g hl))
theorem infoSt : (Tryz.prog.info? 46).map (fun i=>(i.zero,i.size,i.bytes)) = some (some (.agg #[.int .i64 0,.int .i64 0,.int .i64 0,.int .i64 0,.int .i64 0,.int .i64 0,.int .i64 0]),7,56):=by kernel_rfl
theorem Zdk {rs : List RX} {s : St} {kk step N E : Int} {w W : World} {tmps : Array Value} (hM : lineE rs s kk step N = E) (h0 : E ≠ 0) (hB : Below w.heap.size w W) (q1 : Blk W (w.heap.size + 1) 48 #[.slice none 0 0]) (q2 : Blk W (w.heap.size + 1 + 1) 30 #[.int .i64 0])
    (h10 : tmps[10]? = some (.pointer (some ⟨w.heap.size + 1,0,none⟩))) (h11 : tmps[11]? = some (.pointer (some ⟨w.heap.size + 1 + 1,0,none⟩))) : bodyPostM Fence.wide 9 Tryz.prog Tryz.f20 (Zlk rs s kk step N w) .ret { tmps:=tmps,defers:=[] } ((W.setCell ⟨w.heap.size + 1,0,none⟩ (.slice none 0 0)).setCell ⟨w.heap.size + 1 + 1,0,none⟩ (.int .i64 E)):=by
 have k1 : Blk (W.setCell ⟨w.heap.size + 1,0,none⟩ (.slice none 0 0)) (w.heap.size + 1) _ #[.slice none 0 0]:=q1.set_ 0 (.slice none 0 0);have k2 : Blk (W.setCell ⟨w.heap.size + 1,0,none⟩ (.slice none 0 0)) (w.heap.size + 1 + 1) _ #[.int .i64 0]:=q2.far (by simp) _;have k3 : Blk ((W.setCell ⟨w.heap.size + 1,0,none⟩ (.slice none 0 0)).setCell ⟨w.heap.size + 1 + 1,0,none⟩ (.int .i64 E)) (w.heap.size + 1) _ #[.slice none 0 0]:=k1.far (by simp) _;have k4 : Blk ((W.setCell ⟨w.heap.size + 1,0,none⟩ (.slice none 0 0)).setCell ⟨w.heap.size + 1 + 1,0,none⟩ (.int .i64 E)) (w.heap.size + 1 + 1) _ #[.int .i64 E]:=k2.set_ 0 (.int .i64 E);have c1:=k3.cell 0;have c2:=k4.cell 0;simp only [List.getElem?_toArray,List.getElem?_cons_zero] at c1 c2;have hB2 : Below w.heap.size w ((W.setCell ⟨w.heap.size + 1,0,none⟩ (.slice none 0 0)).setCell ⟨w.heap.size + 1 + 1,0,none⟩ (.int .i64 E)):=(hB.setCell (p:=⟨w.heap.size + 1,0,none⟩) (Nat.le_succ _) _).setCell (p:=⟨w.heap.size + 1 + 1,0,none⟩) (Nat.le_trans (Nat.le_succ _) (Nat.le_succ _)) _;refine ⟨.tuple #[.slice none 0 0,.int .i64 E],?_,hB2,.inr ⟨by rw [hM];exact h0,by rw [hM]⟩⟩
 simp [results,Tryz.f20,go_sem,c1,c2,h10,h11]
theorem Zld (s : St) (A : Option Addr) (n c : Nat) (rs : List RX) (kk step N : Int) (w : World) (h : MXL w A n c rs) (hF : FacC rs) (hf : fewM 3 rs) (hk1 : -9223372036854775808 <= kk) (hk2 : kk <= 9223372036854775807) (hd1 : -9223372036854775808 <= step) (hd2 : step <= 9223372036854775807) (hn1 : -9223372036854775808 <= N) (hn2 : N <= 9223372036854775807) :
    Calls Tryz.prog 20 #[.agg #[.int .i64 s.t,.int .i64 s.p0,.int .i64 s.p1,.int .i64 s.p2,.int .i64 s.v0,.int .i64 s.v1,.int .i64 s.v2],.slice A n c,.int .i64 kk,.int .i64 step,.int .i64 N] w (Zlk rs s kk step N w):=by
 have h9 : 1 <= 9:=by omega
 obtain ⟨W0,hW0,hB0,⟨q0,q1,q2⟩,s0⟩:=Zb8 w 46 #[.int .i64 s.t,.int .i64 s.p0,.int .i64 s.p1,.int .i64 s.p2,.int .i64 s.v0,.int .i64 s.v1,.int .i64 s.v2] 48 #[.slice none 0 0] 30 #[.int .i64 0];obtain ⟨E,hE⟩ : ∃ E,stE s = E:=⟨_,rfl⟩;have hCk:=Zb (fun W=>Zjo s W);have hDr:=Zb (fun W1 (hb : Below w.heap.size w W1)=>Zec A n c rs kk W1 (h.below hb) hF hk1 hk2);have hMS:=Zb (fun d (h0 : Zb6 rs kk = 0) (ha : -9223372036854775808 <= d) (hb : d <= 9223372036854775807)=>Zpv (d:=d) h hf h0 ha hb);obtain ⟨c0,c1,c2,c3,c4,c5,c6⟩:=Za2 q0;clear h hF;have hq:=Zb (And.intro q0 (And.intro q1 q2));clear q0 q1 q2;replace hW0:=Zb hW0;replace hB0:=Zb hB0;replace hE:=Zb hE;refine (callsIn_wide (n:=9)).1 ?_;refine callsIn_of_wp_marks Tryz.func20 rfl trivial ?_ rfl;simp only [Tryz.ntmps20,List.size_toArray,List.length_cons,List.length_nil,Nat.reduceAdd,Nat.reduceSub,Array.replicate_succ,Array.replicate_zero,List.push_toArray,List.append_toArray,List.nil_append,List.cons_append];have hW0':=hW0.out
 gi_wp2_with fail
 clear hW0 hW0';refine ⟨trivial,?_⟩;refine (callsIn_wide.2 (hCk.out W0)).mono ?_;rintro e w1 ⟨rfl,hb1⟩;rw [hE.out];obtain ⟨q0,q1,q2⟩:=hq.out;replace q0:=Zd hb1 q0;replace q1:=Zd hb1 q1;replace q2:=Zd hb1 q2;have hB1:=hB0.out.trans (hb1.mono hB0.out.size);clear hq hB0 hb1 c0 c1 c2 c3 c4 c5 c6;obtain ⟨r0,r1⟩ : w1.cell? ⟨w.heap.size + 1,0,none⟩ = some (.slice none 0 0) /\ w1.cell? ⟨w.heap.size + 1 + 1,0,none⟩ = some (.int .i64 0):=⟨q1.cell 0,q2.cell 0⟩;obtain ⟨f0,f1⟩ : w1.frozen? ⟨w.heap.size + 1,0,none⟩ = false /\ w1.frozen? ⟨w.heap.size + 1 + 1,0,none⟩ = false:=⟨q1.frozen 0,q2.frozen 0⟩
 by_cases h0 : E = 0
 case neg =>
  have t0 : (E == 0) = false:=by simpa using h0
  have t0' : decide (E = 0) = false:=by simpa using h0
  have t0'' : (E != 0) = true:=by rw [bne,t0];rfl
  have hM:=Zb (Zog (rs:=rs) (k:=kk) (step:=step) (n:=N) hE.out h0);replace h0:=Zb h0;have hqq:=Zb (And.intro hB1 (And.intro q1 q2));clear hB1 q1 q2 q0
  gi_wp2_with fail
  exact Zdk hM.out h0.out hqq.out.1 hqq.out.2.1 hqq.out.2.2 rfl rfl
 subst h0;have hq:=Zb (And.intro q0 (And.intro q1 q2));obtain ⟨c0,c1,c2,c3,c4,c5,c6⟩:=Za2 (show Blk w1 w.heap.size 46 #[.int .i64 s.t,.int .i64 s.p0,.int .i64 s.p1,.int .i64 s.p2,.int .i64 s.v0,.int .i64 s.v1,.int .i64 s.v2] from q0);clear q0 q1 q2;replace hB1:=Zb hB1
 gi_wp2_with fail
 refine ⟨trivial,?_⟩;refine (callsIn_wide.2 (hDr.out w1 hB1.out)).mono ?_;rintro e w2 ⟨hb2,hcase⟩;obtain ⟨q0,q1,q2⟩:=hq.out;replace q0:=Zd hb2 q0;replace q1:=Zd hb2 q1;replace q2:=Zd hb2 q2;have hB2:=hB1.out.trans (hb2.mono hB1.out.size);clear hq hB1 hb2 c0 c1 c2 c3 c4 c5 c6 r0 r1 f0 f1;obtain ⟨r0,r1⟩ : w2.cell? ⟨w.heap.size + 1,0,none⟩ = some (.slice none 0 0) /\ w2.cell? ⟨w.heap.size + 1 + 1,0,none⟩ = some (.int .i64 0):=⟨q1.cell 0,q2.cell 0⟩;obtain ⟨f0,f1⟩ : w2.frozen? ⟨w.heap.size + 1,0,none⟩ = false /\ w2.frozen? ⟨w.heap.size + 1 + 1,0,none⟩ = false:=⟨q1.frozen 0,q2.frozen 0⟩
 rcases hcase with ⟨hd0,A2,cA2,rfl,hFL⟩ | ⟨hdn,rfl⟩
 case inr =>
  obtain ⟨D,hD⟩ : ∃ D,Zb6 rs kk = D:=⟨_,rfl⟩;rw [hD] at hdn;rw [hD]
  have t0 : (D == 0) = false:=by simpa using hdn
  have t0' : decide (D = 0) = false:=by simpa using hdn
  have t0'' : (D != 0) = true:=by rw [bne,t0];rfl
  have hM:=Zb (Zlb (step:=step) (n:=N) hE.out hD hdn);replace hdn:=Zb hdn;replace hD:=Zb hD;have hqq:=Zb (And.intro hB2 (And.intro q1 q2));clear hB2 q1 q2 q0
  gi_wp2_with fail
  exact Zdk hM.out hdn.out hqq.out.1 hqq.out.2.1 hqq.out.2.2 rfl rfl
 have hcap:=hFL.cap;unfold maxLen at hcap
 by_cases harg : 1 <= step /\ step <= 1125899906842624 /\ 0 <= N /\ N <= 20
 case neg =>
  have hM:=Zb (Zlw (n:=N) (step:=step) hE.out hd0 harg);have hqq:=Zb (And.intro hB2 (And.intro q1 q2));clear hB2 q1 q2 q0 hFL hd0
  by_cases g1 : step < 1
  ·have t1 : decide (step < 1) = true:=decide_eq_true g1
   clear harg
   gi_wp2_with fail
   exact Zdk hM.out (by decide) hqq.out.1 hqq.out.2.1 hqq.out.2.2 rfl rfl
  have t1 : decide (step < 1) = false:=decide_eq_false g1
  by_cases g2 : 1125899906842624 < step
  ·have t2 : decide (1125899906842624 < step) = true:=decide_eq_true g2
   clear harg
   gi_wp2_with fail
   exact Zdk hM.out (by decide) hqq.out.1 hqq.out.2.1 hqq.out.2.2 rfl rfl
  have t2 : decide (1125899906842624 < step) = false:=decide_eq_false g2
  by_cases g3 : N < 0
  ·have t3 : decide (N < 0) = true:=decide_eq_true g3
   clear harg
   gi_wp2_with fail
   exact Zdk hM.out (by decide) hqq.out.1 hqq.out.2.1 hqq.out.2.2 rfl rfl
  have t3 : decide (N < 0) = false:=decide_eq_false g3;have t4 : decide (20 < N) = true:=decide_eq_true (by omega);clear harg
  gi_wp2_with fail
  exact Zdk hM.out (by decide) hqq.out.1 hqq.out.2.1 hqq.out.2.2 rfl rfl
 have hM:=Zb (Zip (n:=N) (step:=step) hE.out hd0 harg);obtain ⟨g1,g2,g3,g4⟩:=harg;obtain ⟨m,hn⟩ : ∃ m : Nat,N = m:=⟨N.toNat,by omega⟩;subst hn;rw [Int.toNat_natCast] at hM
 have hn20 : m <= 20:=by omega
 have t1 : decide (step < 1) = false:=decide_eq_false (by omega);have t2 : decide (1125899906842624 < step) = false:=decide_eq_false (by omega);have t3 : decide ((m : Int) < 0) = false:=decide_eq_false (by omega);have t4 : decide (20 < (m : Int)) = false:=decide_eq_false (by omega);have t4' : decide (20 < m) = false:=decide_eq_false (by omega)
 have hMS2 : Hid (∀ k,k <= 2 * m -> Zmr (Zd0 rs kk) (Zam m step k)):=Zb (fun k hk=>by
  obtain ⟨b1,b2⟩:=Zhv hn20 g1 g2 hk
  exact hMS.out _ hd0 (by omega) (by omega))
 obtain ⟨dir,hdir⟩ : ∃ dir,Zd0 rs kk = dir:=⟨_,rfl⟩;replace hFL : FL w2 A2 6 cA2 (Zd0 rs kk):=hFL;rw [hdir] at hFL hMS2 hM;replace hdir:=Zb hdir;replace hd0:=Zb hd0;obtain ⟨iS,hi,hz0,hz1,hz2⟩:=info_parts infoSt;obtain ⟨c0,c1,c2,c3,c4,c5,c6⟩:=Za2 (show Blk w2 w.heap.size 46 #[.int .i64 s.t,.int .i64 s.p0,.int .i64 s.p1,.int .i64 s.p2,.int .i64 s.v0,.int .i64 s.v1,.int .i64 s.v2] from q0);have hsz2:=hB2.size;have hFL':=Zb hFL;have hq:=Zb (And.intro q0 (And.intro q1 q2));replace hB2:=Zb hB2;clear q0 q1 q2 hFL hDr hCk hMS;obtain ⟨w3,hmk,hown,hgr⟩:=run_make_own (P:=Tryz.prog) w2 w.heap.size 48 46 iS _ 7 Tryz.underlying48 hi hz0 hz1 .i64 .i64 (2 * m + 1) (by rw [hz2];omega) (by unfold maxLen;omega) hsz2;rw [show ((2 * m + 1 : Nat) : Int) = 2 * (m : Int) + 1 by omega] at hmk;obtain ⟨q0,q1,q2⟩:=hq.out
 have hnk : ∀ r,(none : Option Nat) = some r -> ∃ o : Obj,w2.heap[r]? = some o /\ o.isCells = false:=fun r e=>by cases e
 have hl22 : w.heap.size + 1 + 1 < w2.heap.size:=q2.lt;replace q0:=Za5 q0 hgr hnk;replace q1:=Za5 q1 hgr hnk;replace q2:=Za5 q2 hgr hnk;have hB23 : Below w2.heap.size w2 w3:=(Below.refl _ _).grown hgr (Nat.le_refl _) (fun k e=>by cases e);have hl2:=q2.lt;have hB3 : Below w.heap.size w w3:=hB2.out.grown hgr hsz2 (fun k e=>by cases e);obtain ⟨V1,hV1,hBV1,bx1,-,kb1,sV1⟩:=Z6 48 #[.slice (some ⟨w2.heap.size,0,none⟩) 0 (2 * m + 1)] hB3 hB3.size;replace q0:=kb1 _ _ _ q0;replace q1:=kb1 _ _ _ q1;replace q2:=kb1 _ _ _ q2
 have hA1 : Below w3.heap.size w3 V1:=by rw [<- hV1];exact (Below.refl _ _).alloc (Nat.le_refl _) _
 replace hB23:=Zb (hB23.trans (hA1.mono hB23.size));have hown1:=Zb (hown.kept (World.grownBy_alloc w3 (.cells #[.slice (some ⟨w2.heap.size,0,none⟩) 0 (2 * m + 1)] 48) none) (.inr (by simp [Value.ownBlock])));rw [hV1] at hown1;obtain ⟨g15,hg15⟩ : ∃ g,w3.heap.size = g:=⟨_,rfl⟩;rw [hg15] at bx1 sV1
 have hg2 : w2.heap.size < g15:=by
  rcases hown.2 with ⟨e,_⟩ | ⟨g,_,_,e,_,hgb,_⟩
  ·cases e
  ·cases e
   rw [<- hg15];exact (Array.getElem?_eq_some_iff.1 hgb).1
 clear c0 c1 c2 c3 c4 c5 c6 hq hB2 kb1 hA1 hown hgr hnk;obtain ⟨c0,c1,c2,c3,c4,c5,c6⟩:=Za2 (show Blk V1 w.heap.size 46 #[.int .i64 s.t,.int .i64 s.p0,.int .i64 s.p1,.int .i64 s.p2,.int .i64 s.v0,.int .i64 s.v1,.int .i64 s.v2] from q0);have hq:=Zb (And.intro q0 (And.intro q1 (And.intro q2 bx1)))
 have hsV : w.heap.size + 1 + 1 < g15:=by omega
 clear q0 q1 q2 bx1;replace hB3:=Zb hB3;replace hBV1:=Zb hBV1
 gi_wp2_with fail
 (try rw [hV1]);(try rw [hg15]);refine ⟨trivial,?_⟩;refine (callsIn_wide.2 (Zqc s A2 6 cA2 step m V1)).mono ?_;rintro e w4 ⟨rfl,hw4⟩;clear c0 c1 c2 c3 c4 c5 c6;obtain ⟨q0,q1,q2,bx⟩:=hq.out
 have hb4 : Below V1.heap.size V1 w4:=by rw [hw4];exact (((((Below.refl _ _).alloc (Nat.le_refl _) _).alloc (by simp) _).alloc (by simp;omega) _).alloc (by simp;omega) _)
 have p0 : Blk w4 V1.heap.size 46 s.cells:=by rw [hw4];exact (((Blk.new _ _ _).alloc _).alloc _).alloc _
 have p1 : Blk w4 (V1.heap.size + 1) 23 #[.slice A2 6 cA2]:=by
  rw [hw4,show V1.heap.size + 1 = (V1.alloc (.cells #[.int .i64 s.t,.int .i64 s.p0,.int .i64 s.p1,.int .i64 s.p2,.int .i64 s.v0,.int .i64 s.v1,.int .i64 s.v2] 46)).heap.size by simp];exact ((Blk.new _ _ _).alloc _).alloc _
 have p2 : Blk w4 (V1.heap.size + 1 + 1) 2 #[.int .i64 step]:=by
  rw [hw4,show V1.heap.size + 1 + 1 = ((V1.alloc (.cells #[.int .i64 s.t,.int .i64 s.p0,.int .i64 s.p1,.int .i64 s.p2,.int .i64 s.v0,.int .i64 s.v1,.int .i64 s.v2] 46)).alloc (.cells #[.slice A2 6 cA2] 23)).heap.size by simp];exact (Blk.new _ _ _).alloc _
 have p3 : Blk w4 (V1.heap.size + 1 + 1 + 1) 3 #[.int .i64 m]:=by
  rw [hw4,show V1.heap.size + 1 + 1 + 1 = (((V1.alloc (.cells #[.int .i64 s.t,.int .i64 s.p0,.int .i64 s.p1,.int .i64 s.p2,.int .i64 s.v0,.int .i64 s.v1,.int .i64 s.v2] 46)).alloc (.cells #[.slice A2 6 cA2] 23)).alloc (.cells #[.int .i64 step] 2)).heap.size by simp];exact Blk.new _ _ _
 have hrow:=hown1.out.kept (Zfq hb4) (.inr (by simp [Value.ownBlock]));have hP : StpS w2 (V1.heap.size + 1 + 1 + 1) V1.heap.size (V1.heap.size + 1) (V1.heap.size + 1 + 1) m A2 cA2 s step w4:=⟨⟨p3.cell 0,p0,p1.cell 0,p2.cell 0⟩,(hB23.out.trans (hb4.mono (by have:=hB23.out.size;omega)))⟩;replace q0:=Zd hb4 q0;replace q1:=Zd hb4 q1;replace q2:=Zd hb4 q2;replace bx : Boxed w4 g15 48 _:=Zd hb4 bx;have hB4:=hBV1.out.trans (hb4.mono hBV1.out.size);obtain ⟨b,hb⟩ : ∃ b,V1.heap.size = b:=⟨_,rfl⟩
 have hszb : w4.heap.size = b + 4:=by rw [hw4];simp;omega
 rw [hb] at hP hb4 sV1 ⊢;clear hw4 hB23 hown1 hBV1 hB3 hq p0 p1 p2 p3 hb hV1
 have hlw4 : w.heap.size <= w4.heap.size:=by omega
 have hgb : g15 < b:=by omega
 have hw24 : w2.heap.size <= w4.heap.size:=by omega
 replace sV1:=Zb sV1;replace hszb:=Zb hszb
 gi_wp2
 refine wpIn_rangeFunc_ownH rfl h9 (gf:=117) (lb:=#[.pointer (some ⟨b + 1 + 1 + 1,0,none⟩),.pointer (some ⟨b,0,none⟩),.pointer (some ⟨b + 1,0,none⟩),.pointer (some ⟨b + 1 + 1,0,none⟩)]) rfl trivial (enters_of Tryz.func117 (by kernel_rfl) rfl)
  (Zlq w2 8 (by omega) (b + 1 + 1 + 1) b (b + 1) (b + 1 + 1) m A2 cA2 s dir step hn20 g1 g2 hFL'.out hMS2.out w4 hP) KpS.trans (fun W l o o' hl h hc _=>KpS.put W l o o' (by omega) h hc) (Below.refl _ _) (fun _=>rfl)
  (fun pre W=>(((((∃ v,Boxed W g15 48 v /\ W.ownsRow w.heap.size 46 7 v pre.length (flatK dir s step m pre) /\ v = (.slice (some ⟨w2.heap.size,0,none⟩) pre.length (2 * m + 1))) /\ Blk W (w.heap.size + 1) 48 #[.slice none 0 0]) /\ Blk W (w.heap.size + 1 + 1) 30 #[.int .i64 0]) /\ ∀ k ∈ pre,movE s dir (Zam m step k) = 0)) /\ Below w.heap.size w W)
  (fun c pre W=>(((c = .ret /\ ∃ k ∈ pre,movE s dir (Zam m step k) ≠ 0) /\ Blk W (w.heap.size + 1) 48 #[.slice none 0 0]) /\ Blk W (w.heap.size + 1 + 1) 30 #[.int .i64 24]) /\ Below w.heap.size w W)
  (OwnFrom.and (OwnFrom.and (OwnFrom.and (OwnFrom.and (Own.from (holdsRow_own _ _ _ _ _ (fun pre=>pre.length) (fun pre=>flatK dir s step m pre) (fun pre v=>v = (.slice (some ⟨w2.heap.size,0,none⟩) pre.length (2 * m + 1)))) _) (Own.from (fun s X Y row hs hg hr=>Za5 hs hg hr) _)) (Own.from (fun s X Y row hs hg hr=>Za5 hs hg hr) _)) (ownFrom_pure _ _)) (ownFrom_below (Nat.le_refl _) hlw4))
  (fun c=>OwnFrom.and (OwnFrom.and (OwnFrom.and (ownFrom_pure _ _) (Own.from (fun s X Y row hs hg hr=>Za5 hs hg hr) _)) (Own.from (fun s X Y row hs hg hr=>Za5 hs hg hr) _)) (ownFrom_below (Nat.le_refl _) hlw4))
  ⟨⟨⟨⟨⟨_,bx,hrow,rfl⟩,q1⟩,q2⟩,fun k hk=>(by cases hk)⟩,hB4⟩
  (fun x a' W=>∃ gA,a' = { tmps:=#[.agg #[.int .i64 s.t,.int .i64 s.p0,.int .i64 s.p1,.int .i64 s.p2,.int .i64 s.v0,.int .i64 s.v1,.int .i64 s.v2],.slice A n c,.int .i64 kk,.int .i64 step,.int .i64 m,.pointer (some ⟨w.heap.size,0,none⟩),undef,undef,undef,undef,.pointer (some ⟨w.heap.size + 1,0,none⟩),.pointer (some ⟨w.heap.size + 1 + 1,0,none⟩),.int .i64 0,.slice A2 6 cA2,.int .i64 0,.pointer (some ⟨g15,0,none⟩),.pointer (some ⟨gA,0,none⟩),.int .i64 (movE s dir (Zam m step x)),.agg #[.int .i64 s.t,.int .i64 s.p0,.int .i64 s.p1,.int .i64 s.p2,.int .i64 s.v0,.int .i64 s.v1,.int .i64 s.v2],.int .i64 0,.int .i64 0,.bool false,undef,.tuple #[.slice A2 6 cA2,.int .i64 0],.slice A n c,.int .i64 kk,.tuple #[.slice A2 6 cA2,.int .i64 0],.slice A2 6 cA2,.int .i64 0,.int .i64 0,.bool false,undef,.int .i64 step,.bool false,.bool false,.int .i64 step,.bool false,.bool false,.bool false,.int .i64 m,.bool false,.bool false,.bool false,.int .i64 m,.bool false,.bool false,.int .i64 m,.int .i64 (2 * m),.int .i64 (2 * m + 1),.slice (some ⟨w2.heap.size,0,none⟩) 0 (2 * m + 1),.agg #[.int .i64 s.t,.int .i64 s.p0,.int .i64 s.p1,.int .i64 s.p2,.int .i64 s.v0,.int .i64 s.v1,.int .i64 s.v2],.slice A2 6 cA2,.int .i64 step,.int .i64 m,.func (.func 117) #[] #[.pointer (some ⟨b + 1 + 1 + 1,0,none⟩),.pointer (some ⟨b,0,none⟩),.pointer (some ⟨b + 1,0,none⟩),.pointer (some ⟨b + 1 + 1,0,none⟩)],.agg (movV s dir (Zam m step x)).cells,.int .i64 (movE s dir (Zam m step x)),undef,undef,undef,undef,undef,undef,undef,undef],defers:=[] } /\ Blk W gA 46 (movV s dir (Zam m step x)).cells)
  (fun x a'=>Own.from (fun s X Y row hs hg hr=>by
   obtain ⟨gA,e1,e2⟩:=hs
   exact ⟨gA,e1,Za5 e2 hg hr⟩) _) ?assign ?body ?done ?stop
 case assign =>
  intro l pre x W K hI hK;obtain ⟨⟨⟨⟨⟨v,hv,hr,rfl⟩,k1⟩,k2⟩,hz⟩,hBW⟩:=hI
  have hfin : ∀ Vm Em,movV s dir (Zam m step x) = Vm -> movE s dir (Zam m step x) = Em -> K { tmps:=#[.agg #[.int .i64 s.t,.int .i64 s.p0,.int .i64 s.p1,.int .i64 s.p2,.int .i64 s.v0,.int .i64 s.v1,.int .i64 s.v2],.slice A n c,.int .i64 kk,.int .i64 step,.int .i64 m,.pointer (some ⟨w.heap.size,0,none⟩),undef,undef,undef,undef,.pointer (some ⟨w.heap.size + 1,0,none⟩),.pointer (some ⟨w.heap.size + 1 + 1,0,none⟩),.int .i64 0,.slice A2 6 cA2,.int .i64 0,.pointer (some ⟨g15,0,none⟩),.pointer (some ⟨W.heap.size,0,none⟩),.int .i64 Em,.agg #[.int .i64 s.t,.int .i64 s.p0,.int .i64 s.p1,.int .i64 s.p2,.int .i64 s.v0,.int .i64 s.v1,.int .i64 s.v2],.int .i64 0,.int .i64 0,.bool false,undef,.tuple #[.slice A2 6 cA2,.int .i64 0],.slice A n c,.int .i64 kk,.tuple #[.slice A2 6 cA2,.int .i64 0],.slice A2 6 cA2,.int .i64 0,.int .i64 0,.bool false,undef,.int .i64 step,.bool false,.bool false,.int .i64 step,.bool false,.bool false,.bool false,.int .i64 m,.bool false,.bool false,.bool false,.int .i64 m,.bool false,.bool false,.int .i64 m,.int .i64 (2 * m),.int .i64 (2 * m + 1),.slice (some ⟨w2.heap.size,0,none⟩) 0 (2 * m + 1),.agg #[.int .i64 s.t,.int .i64 s.p0,.int .i64 s.p1,.int .i64 s.p2,.int .i64 s.v0,.int .i64 s.v1,.int .i64 s.v2],.slice A2 6 cA2,.int .i64 step,.int .i64 m,.func (.func 117) #[] #[.pointer (some ⟨b + 1 + 1 + 1,0,none⟩),.pointer (some ⟨b,0,none⟩),.pointer (some ⟨b + 1,0,none⟩),.pointer (some ⟨b + 1 + 1,0,none⟩)],.agg Vm.cells,.int .i64 Em,undef,undef,undef,undef,undef,undef,undef,undef],defers:=[] } (W.alloc (.cells Vm.cells 46)):=fun Vm Em e1 e2=>by
   subst e1 e2;exact hK _ _ ((KeepsOthers.alloc _ _).from _) (fun h=>h.below ((Below.refl _ _).alloc (Nat.le_refl _) _)) ⟨⟨⟨⟨⟨_,hv.alloc _,hr.alloc _,rfl⟩,k1.alloc _⟩,k2.alloc _⟩,hz⟩,hBW.alloc hBW.size _⟩ ⟨W.heap.size,rfl,Blk.new _ _ _⟩
  clear hK;dsimp only [encStep];obtain ⟨Vm,hVm⟩ : ∃ V,movV s dir (Zam m step x) = V:=⟨_,rfl⟩;obtain ⟨Em,hEm⟩ : ∃ V,movE s dir (Zam m step x) = V:=⟨_,rfl⟩;replace hfin:=hfin Vm Em hVm hEm;rw [hVm,hEm];clear hVm hEm hv hr k1 k2 hz hBW;dsimp only [St.cells] at hfin ⊢
  gi_wp2
  exact hfin
 case body =>
  rintro l pre x a' W hlw hrl ⟨⟨⟨⟨⟨v,hv,hr,rfl⟩,k1⟩,k2⟩,hz⟩,hBW⟩ ⟨gA,rfl,kA⟩ hpre;obtain ⟨Vm,hVm⟩ : ∃ V,movV s dir (Zam m step x) = V:=⟨_,rfl⟩;obtain ⟨Em,hEm⟩ : ∃ V,movE s dir (Zam m step x) = V:=⟨_,rfl⟩;rw [hVm] at kA;rw [hVm,hEm];have hc15:=hv.cell;obtain ⟨x0,x1,x2,x3,x4,x5,x6⟩:=Za2 kA;obtain ⟨r0,r1⟩ : W.cell? ⟨w.heap.size + 1,0,none⟩ = some (.slice none 0 0) /\ W.cell? ⟨w.heap.size + 1 + 1,0,none⟩ = some (.int .i64 0):=⟨k1.cell 0,k2.cell 0⟩;obtain ⟨f0,f1⟩ : W.frozen? ⟨w.heap.size + 1,0,none⟩ = false /\ W.frozen? ⟨w.heap.size + 1 + 1,0,none⟩ = false:=⟨k1.frozen 0,k2.frozen 0⟩;dsimp only [St.cells]
  by_cases h0 : Em = 0
  case neg =>
   have h24 : Em = 24:=by
    rcases Zr2 s dir (Zam m step x) with h | h
    ·rw [hEm] at h;exact absurd h h0
    ·rw [hEm] at h;exact h
   subst h24;clear h0 hVm;replace hEm:=Zb hEm;have KO : KeepsFrom w4.heap.size W ((W.setCell ⟨w.heap.size + 1,0,none⟩ (.slice none 0 0)).setCell ⟨w.heap.size + 1 + 1,0,none⟩ (.int .i64 24)):=((KeepsOthers.setCell _ _ _).trans (KeepsOthers.setCell _ _ _)).from _;have n1 : Blk (W.setCell ⟨w.heap.size + 1,0,none⟩ (.slice none 0 0)) (w.heap.size + 1) _ #[.slice none 0 0]:=k1.set_ 0 (.slice none 0 0);have n2 : Blk (W.setCell ⟨w.heap.size + 1,0,none⟩ (.slice none 0 0)) (w.heap.size + 1 + 1) _ #[.int .i64 0]:=k2.far (by simp) _;have n3 : Blk ((W.setCell ⟨w.heap.size + 1,0,none⟩ (.slice none 0 0)).setCell ⟨w.heap.size + 1 + 1,0,none⟩ (.int .i64 24)) (w.heap.size + 1) _ #[.slice none 0 0]:=n1.far (by simp) _;have n4 : Blk ((W.setCell ⟨w.heap.size + 1,0,none⟩ (.slice none 0 0)).setCell ⟨w.heap.size + 1 + 1,0,none⟩ (.int .i64 24)) (w.heap.size + 1 + 1) _ #[.int .i64 24]:=n2.set_ 0 (.int .i64 24);have hB2 : Below w.heap.size w ((W.setCell ⟨w.heap.size + 1,0,none⟩ (.slice none 0 0)).setCell ⟨w.heap.size + 1 + 1,0,none⟩ (.int .i64 24)):=(hBW.setCell (p:=⟨w.heap.size + 1,0,none⟩) (Nat.le_succ _) _).setCell (p:=⟨w.heap.size + 1 + 1,0,none⟩) (Nat.le_trans (Nat.le_succ _) (Nat.le_succ _)) _
   gi_wp2
   exact ⟨KO,⟨⟨⟨rfl,x,by simp,by rw [hEm.out];decide⟩,n3⟩,n4⟩,hB2⟩
  subst h0
  have hflat : flatK dir s step m (pre ++ [x]) = flatK dir s step m pre ++ [.int .i64 Vm.t,.int .i64 Vm.p0,.int .i64 Vm.p1,.int .i64 Vm.p2,.int .i64 Vm.v0,.int .i64 Vm.v1,.int .i64 Vm.v2]:=by rw [Znk,hVm];rfl
  replace hflat:=Zb hflat;replace hEm:=Zb hEm;replace hVm:=Zb hVm;have hWs:=hBW.size;have hlt1:=k1.lt;have hlt2:=k2.lt
  gi_wp2_with (gi_at_builtin;refine wpListIn_append_fits _ rfl _ _ 48 rfl w.heap.size 46 iS 7 Tryz.underlying48 hi hz1 w2.heap.size pre.length (2 * m + 1) _ rfl (hr.alloc _) ⟨W.heap.size,0,none⟩ 1 1 [.int .i64 Vm.t,.int .i64 Vm.p0,.int .i64 Vm.p1,.int .i64 Vm.p2,.int .i64 Vm.v0,.int .i64 Vm.v1,.int .i64 Vm.v2] rfl rfl (Zm6 W #[.int .i64 Vm.t,.int .i64 Vm.p0,.int .i64 Vm.p1,.int .i64 Vm.p2,.int .i64 Vm.v0,.int .i64 Vm.v1,.int .i64 Vm.v2] _) (by simp [Value.oneCell']) (by omega) ?_;intro w1 hown' hgrow;obtain ⟨hv1,hv2,hr2,hk2,hb2⟩:=hv.appended (by decide) hr hWs (by omega) hown' hgrow;have hc1:=hv1.cell;have hf1:=hv1.frozen)
  have ho : ∀ g,g < W.heap.size -> g ≠ w2.heap.size -> g ≠ g15 -> (w1.setCell ⟨g15,0,none⟩ (.slice (some ⟨w2.heap.size,0,none⟩) (pre.length + 1) (2 * m + 1))).heap[g]? = W.heap[g]?:=fun g hl h1 h2=>Zqg hgrow hl h1 h2
  have hbW : w2.heap.size <= W.heap.size -> Below w2.heap.size W (w1.setCell ⟨g15,0,none⟩ (.slice (some ⟨w2.heap.size,0,none⟩) (pre.length + 1) (2 * m + 1))):=fun hs=>(((Below.refl w2.heap.size W).alloc hs _).grown hgrow (by simp;omega) (fun k e=>by cases e;exact Nat.le_refl _)).setCell (p:=⟨g15,0,none⟩) (Nat.le_of_lt hg2) _
  refine ⟨hk2.from _,fun h=>⟨⟨?_,?_,?_,?_⟩,h.2.trans (hbW h.2.size)⟩,⟨⟨⟨⟨_,hv2,?_,?_⟩,?_⟩,?_⟩,?_⟩,hBW.trans hb2⟩
  ·exact (World.cell?_of_block (ho _ (Zq h.1.1) (by simp only;omega) (by simp only;omega))).trans h.1.1
  ·exact (ho _ h.1.2.1.lt (by omega) (by omega)).trans h.1.2.1
  ·exact (World.cell?_of_block (ho _ (Zq h.1.2.2.1) (by simp only;omega) (by simp only;omega))).trans h.1.2.2.1
  ·exact (World.cell?_of_block (ho _ (Zq h.1.2.2.2) (by simp only;omega) (by simp only;omega))).trans h.1.2.2.2
  ·rw [show (pre ++ [x]).length = pre.length + 1 by simp,hflat.out];exact hr2
  ·simp
  ·exact (ho _ hlt1 (by omega) (by omega)).trans k1
  ·exact (ho _ hlt2 (by omega) (by omega)).trans k2
  ·intro k hk
   rcases List.mem_append.1 hk with hk | hk
   ·exact hz k hk
   ·rw [List.mem_singleton] at hk;subst hk;exact hEm.out
 case done =>
  rintro D ys W hD rfl ⟨⟨⟨⟨⟨v,hv,hr,rfl⟩,k1⟩,k2⟩,hz⟩,hBW⟩ hK;rw [List.length_range] at hr hv
  have hSL : ∀ Z : World,Z.ownsRow w.heap.size 46 7 (.slice (some ⟨w2.heap.size,0,none⟩) (2 * m + 1) (2 * m + 1)) (2 * m + 1) (flatK dir s step m (List.range (2 * m + 1))) -> SL Z (some ⟨w2.heap.size,0,none⟩) (2 * m + 1) (2 * m + 1) (lineS dir s step m):=fun Z hZ=>by
   have e1 : (lineS dir s step m).length = 2 * m + 1:=by simp [lineS]
   have e2 : ((lineS dir s step m).flatMap fun s=>s.cells.toList) = flatK dir s step m (List.range (2 * m + 1)):=by
    unfold lineS flatK;rw [List.flatMap_map]
   obtain ⟨A5,c5,e5,h5⟩:=own_sl (w:=Z) (base:=w.heap.size) (ss:=lineS dir s step m) (by rw [e1,e2];exact hZ) (by rw [e1];omega);rw [e1] at e5 h5
   cases e5
   exact h5
  have hEok : Hid (lineE rs s kk step m = 0):=Zb (by rw [hM.out];exact Zls (fun j hj=>hz j (List.mem_range.2 (by omega))));have hc15:=hv.cell;obtain ⟨r0,r1⟩ : W.cell? ⟨w.heap.size + 1,0,none⟩ = some (.slice none 0 0) /\ W.cell? ⟨w.heap.size + 1 + 1,0,none⟩ = some (.int .i64 0):=⟨k1.cell 0,k2.cell 0⟩;obtain ⟨f0,f1⟩ : W.frozen? ⟨w.heap.size + 1,0,none⟩ = false /\ W.frozen? ⟨w.heap.size + 1 + 1,0,none⟩ = false:=⟨k1.frozen 0,k2.frozen 0⟩;have hr2:=(hr.kept (grownBy_setCell' W (w.heap.size + 1) (.slice (some ⟨w2.heap.size,0,none⟩) (2 * m + 1) (2 * m + 1))) (.inr (by simp [Value.ownBlock];omega))).kept (grownBy_setCell' _ (w.heap.size + 1 + 1) (.int .i64 0)) (.inr (by simp [Value.ownBlock];omega));have KO : KeepsOthers W ((W.setCell ⟨w.heap.size + 1,0,none⟩ (.slice (some ⟨w2.heap.size,0,none⟩) (2 * m + 1) (2 * m + 1))).setCell ⟨w.heap.size + 1 + 1,0,none⟩ (.int .i64 0)):=(KeepsOthers.setCell _ _ _).trans (KeepsOthers.setCell _ _ _);have n1 : Blk (W.setCell ⟨w.heap.size + 1,0,none⟩ (.slice (some ⟨w2.heap.size,0,none⟩) (2 * m + 1) (2 * m + 1))) (w.heap.size + 1) _ #[(.slice (some ⟨w2.heap.size,0,none⟩) (2 * m + 1) (2 * m + 1))]:=k1.set_ 0 (.slice (some ⟨w2.heap.size,0,none⟩) (2 * m + 1) (2 * m + 1));have n2 : Blk (W.setCell ⟨w.heap.size + 1,0,none⟩ (.slice (some ⟨w2.heap.size,0,none⟩) (2 * m + 1) (2 * m + 1))) (w.heap.size + 1 + 1) _ #[.int .i64 0]:=k2.far (by simp) _
  have n3 : Blk ((W.setCell ⟨w.heap.size + 1,0,none⟩ (.slice (some ⟨w2.heap.size,0,none⟩) (2 * m + 1) (2 * m + 1))).setCell ⟨w.heap.size + 1 + 1,0,none⟩ (.int .i64 0)) (w.heap.size + 1) _ #[(.slice (some ⟨w2.heap.size,0,none⟩) (2 * m + 1) (2 * m + 1))]:=n1.far (by simp) _;have n4 : Blk ((W.setCell ⟨w.heap.size + 1,0,none⟩ (.slice (some ⟨w2.heap.size,0,none⟩) (2 * m + 1) (2 * m + 1))).setCell ⟨w.heap.size + 1 + 1,0,none⟩ (.int .i64 0)) (w.heap.size + 1 + 1) _ #[.int .i64 0]:=n2.set_ 0 (.int .i64 0);have hB2 : Below w.heap.size w ((W.setCell ⟨w.heap.size + 1,0,none⟩ (.slice (some ⟨w2.heap.size,0,none⟩) (2 * m + 1) (2 * m + 1))).setCell ⟨w.heap.size + 1 + 1,0,none⟩ (.int .i64 0)):=(hBW.setCell (p:=⟨w.heap.size + 1,0,none⟩) (Nat.le_succ _) _).setCell (p:=⟨w.heap.size + 1 + 1,0,none⟩) (Nat.le_trans (Nat.le_succ _) (Nat.le_succ _)) _;obtain ⟨Z,hZ⟩ : ∃ Z,((W.setCell ⟨w.heap.size + 1,0,none⟩ (.slice (some ⟨w2.heap.size,0,none⟩) (2 * m + 1) (2 * m + 1))).setCell ⟨w.heap.size + 1 + 1,0,none⟩ (.int .i64 0)) = Z:=⟨_,rfl⟩;replace hSL:=Zb hSL;clear hr hv
  gi_wp2
  rw [hZ] at KO n3 n4 hB2 hr2;have hK' : Z.heap[D]? = some (.deferred (some [])):=KO.same D _ hK rfl;refine ⟨by simp,.inl ⟨_,_,rfl,run_takeDeferred hK',?_⟩⟩;have c1:=cell_kept (n3.cell 0) (grownBy_putObj' Z D (.deferred none)) (fun r e=>by cases e;exact ⟨_,hK',rfl⟩);have c2:=cell_kept (n4.cell 0) (grownBy_putObj' Z D (.deferred none)) (fun r e=>by cases e;exact ⟨_,hK',rfl⟩)
  simp at c1 c2
  have hB3 : Below w.heap.size w (Z.putObj D (.deferred none)):=hB2.trans (belowK_b (w:=w) (Nat.le_refl _) Z D _ _ (by omega) hK' rfl rfl);have hr3:=ownsRow_putObj hr2 (.deferred none) hK' rfl;refine ⟨.tuple #[(.slice (some ⟨w2.heap.size,0,none⟩) (2 * m + 1) (2 * m + 1)),.int .i64 0],by simp [results,Tryz.f20,go_sem,c1,c2],hB3,.inl ⟨hEok.out,_,_,rfl,?_⟩⟩;have h9:=hSL.out _ hr3;have hdir':=hdir.out;rw [Int.toNat_natCast,hdir'];exact h9
 case stop =>
  rintro D c pre W hD ⟨k,hk,rfl⟩ ⟨⟨⟨⟨rfl,j,hj,hne⟩,k1⟩,k2⟩,hBW⟩ hK;have hEb : Hid (lineE rs s kk step m = 24):=Zb (by rw [hM.out];exact Zj6 (by have:=List.mem_range.1 hj;omega) hne);have c1':=k1.cell 0;have c2':=k2.cell 0
  gi_wp2
  refine ⟨by simp,.inl ⟨_,_,rfl,run_takeDeferred hK,?_⟩⟩;have c1:=cell_kept (k1.cell 0) (grownBy_putObj' W D (.deferred none)) (fun r e=>by cases e;exact ⟨_,hK,rfl⟩);have c2:=cell_kept (k2.cell 0) (grownBy_putObj' W D (.deferred none)) (fun r e=>by cases e;exact ⟨_,hK,rfl⟩)
  simp at c1 c2
  have hB3 : Below w.heap.size w (W.putObj D (.deferred none)):=hBW.trans (belowK_b (w:=w) (Nat.le_refl _) W D _ _ (by omega) hK rfl rfl);refine ⟨.tuple #[.slice none 0 0,.int .i64 24],by simp [results,Tryz.f20,go_sem,c1,c2],hB3,.inr ⟨by rw [hEb.out];decide,by rw [hEb.out]⟩⟩
def Ze5 : Int -> List Int -> List Int
 | x,[]=>[x]
 | x,y :: l=>(x + y) :: Ze5 y l
def Zfd : Nat -> List Int
 | 0=>[1]
 | i + 1=>Ze5 0 (Zfd i)
theorem Zj8 : ∀ (x : Int) (l : List Int),(Ze5 x l).length = l.length + 1
 | _,[]=>rfl
 | x,y :: l=>by show (Ze5 y l).length + 1 = _;rw [Zj8 y l];rfl
theorem Zd9 : ∀ i,(Zfd i).length = i + 1
 | 0=>rfl
 | i + 1=>by show (Ze5 0 (Zfd i)).length = _;rw [Zj8,Zd9 i]
theorem Zjk : ∀ (x : Int) (l : List Int) (k : Nat),(Ze5 x l)[k]?.getD 0 = (if k = 0 then x else l[k - 1]?.getD 0) + l[k]?.getD 0
 | x,[],0=>by simp [Ze5]
 | x,[],k + 1=>by simp [Ze5]
 | x,y :: l,0=>by simp [Ze5]
 | x,y :: l,k + 1=>by
  show ((x + y) :: Ze5 y l)[k + 1]?.getD 0 = _;rw [List.getElem?_cons_succ,Zjk y l k]
  cases k with
  | zero=>simp
  | succ k=>simp
theorem Zmd (i k : Nat) : (Zfd (i + 1))[k]?.getD 0 = (if k = 0 then 0 else (Zfd i)[k - 1]?.getD 0) + (Zfd i)[k]?.getD 0:=Zjk 0 (Zfd i) k
theorem Znu : ∀ i,i <= 40 -> (Zfd i).all (fun x=>decide (0 < x) && decide (x < 4611686018427387904)) = true:=by decide +kernel
open Go.RowKit
def pg (i j : Nat) : Int:=(Zfd i)[j]?.getD 0
def Zds (l : List Int) : Array Value:=(l.map (fun x=>Value.int .i64 x)).toArray
def Zlx (i : Nat) : List Int:=(List.range 41).map (pg i)
def Zg7 (i k : Nat) : List Int:=(List.range 41).map fun j=>if k < j then pg (i + 1) j else pg i j
theorem Zr9 {i j : Nat} (h : i < j) : pg i j = 0:=by
 unfold pg;rw [List.getElem?_eq_none (by rw [Zd9];omega)];rfl
theorem Zoi (i : Nat) : pg i 0 = 1:=by
 induction i with
 | zero=>rfl
 | succ i ih =>
  have h:=Zmd i 0;simp only [if_true] at h;have ih' : (Zfd i)[0]?.getD 0 = 1:=ih;rw [ih'] at h;exact h
theorem pg_step (i k : Nat) : pg (i + 1) (k + 1) = pg i (k + 1) + pg i k:=by
 have h:=Zmd i (k + 1);rw [if_neg (by omega),Nat.add_sub_cancel] at h;unfold pg;rw [h];omega
theorem Zh6 {i : Nat} (h : i <= 40) (j : Nat) : 0 <= pg i j /\ pg i j < 4611686018427387904:=by
 by_cases hj : j < (Zfd i).length
 ·have h1:=Znu i h
  rw [List.all_eq_true] at h1;have h2:=h1 _ (List.getElem_mem hj);simp only [Bool.and_eq_true,decide_eq_true_eq] at h2;unfold pg;rw [List.getElem?_eq_getElem hj];exact ⟨by have:=h2.1;simp only [Option.getD_some];omega,h2.2⟩
 ·unfold pg
  rw [List.getElem?_eq_none (by omega)];exact ⟨Int.le_refl _,by decide⟩
theorem Zmx (i : Nat) : Zg7 i (i + 1) = Zlx i:=by
 unfold Zg7 Zlx
 apply List.map_congr_left
 intro j _
 by_cases h : i + 1 < j
 ·rw [if_pos h,Zr9 (by omega),Zr9 (by omega)]
 ·rw [if_neg h]
theorem Zq8 (i : Nat) : Zg7 i 0 = Zlx (i + 1):=by
 unfold Zg7 Zlx
 apply List.map_congr_left
 intro j _
 cases j with
 | zero=>rw [if_neg (by omega),Zoi,Zoi]
 | succ j=>rw [if_pos (by omega)]
theorem Zfj {l : List Int} {k : Nat} {x : Int} (h : l[k]? = some x) : (Zds l)[k]? = some (.int .i64 x):=by
 unfold Zds;rw [List.getElem?_toArray,List.getElem?_map,h];rfl
theorem Zem {i k j : Nat} (h : j < 41) : (Zg7 i k)[j]? = some (if k < j then pg (i + 1) j else pg i j):=by
 unfold Zg7;rw [List.getElem?_map,List.getElem?_range h];rfl
theorem Zq1 {i k : Nat} (h : k + 1 < 41) : (Zds (Zg7 i (k + 1))).setIfInBounds (k + 1) (.int .i64 (pg i (k + 1) + pg i k)) = Zds (Zg7 i k):=by
 unfold Zds;rw [List.setIfInBounds_toArray]
 congr 1
 apply List.ext_getElem?
 intro j;rw [List.getElem?_set,List.length_map]
 have hl : (Zg7 i (k + 1)).length = 41:=by unfold Zg7;simp
 by_cases hj : k + 1 = j
 ·subst hj
  rw [if_pos rfl,if_pos (by rw [hl];exact h),List.getElem?_map,Zem h,if_pos (by omega),pg_step];rfl
 ·rw [if_neg hj,List.getElem?_map,List.getElem?_map]
  by_cases h2 : j < 41
  ·rw [Zem h2,Zem h2]
   by_cases h3 : k + 1 < j
   ·rw [if_pos h3,if_pos (by omega)]
   ·rw [if_neg h3,if_neg (by omega)]
  ·rw [List.getElem?_eq_none (by rw [hl];omega),List.getElem?_eq_none (by unfold Zg7;simp;omega)]
def Zca (n : Nat) : List Rat:=(List.range (2 * n + 1)).map fun j=>Rat.divInt (pg (2 * n) j) (2 ^ (2 * n))
theorem Zf2 {n : Nat} : (Zca n).length = 2 * n + 1:=by simp [Zca]
theorem Zqh {n i : Nat} (h : i < 2 * n + 1) : (Zca n).take i ++ [Rat.divInt (pg (2 * n) i) (2 ^ (2 * n))] = (Zca n).take (i + 1):=by
 rw [List.take_add_one];unfold Zca;rw [List.getElem?_map,List.getElem?_range h];rfl
def WeiPost (n : Int) (w : World) (e : Ending) (w' : World) : Prop:=
 Below w.heap.size w w' /\ ((0 <= n /\ n <= 20 /\ ∃ A c,e = .returned (.tuple #[.slice A (2 * n.toNat + 1) c,.int .i64 0]) /\ FL w' A (2 * n.toNat + 1) c (Zca n.toNat)) \/ (¬ (0 <= n /\ n <= 20) /\ e = .returned (.tuple #[.slice none 0 0,.int .i64 2])))
theorem Zrz {t : TypeId} {B : Nat} {w0 w : World} {g k : Nat} {cs : Array Value} (v : Value) (hB : Below B w0 w) (hs : B <= g) (hb : Blk w g t cs) : ∃ W,w.setCell ⟨g,k,none⟩ v = W /\ Below B w0 W /\ Blk W g t (cs.setIfInBounds k v):=
 ⟨_,rfl,hB.setCell (p:=⟨g,k,none⟩) hs _,hb.set_ k v⟩
theorem Zf8 (n : Int) (w : World) (hn1 : -9223372036854775808 <= n) (hn2 : n <= 9223372036854775807) :
    Calls Tryz.prog 23 #[.int .i64 n] w (WeiPost n w):=by
 obtain ⟨iF,hi,hz0,hz1,hz2⟩:=info_parts Zkd
 have hmx : Tryz.prog.follows .mixedOrders = true:=by kernel_rfl
 by_cases h0 : n < 0
 case pos =>
  have t1 : decide (n < 0) = true:=decide_eq_true h0;go_enter Tryz.func23,Tryz.ntmps23;go_wp2_with fail;go_returns;exact ⟨Below.refl _ _,.inr ⟨by omega,rfl⟩⟩
 have t1 : decide (n < 0) = false:=decide_eq_false h0
 by_cases h20 : 20 < n
 case pos =>
  have t2 : decide (20 < n) = true:=decide_eq_true h20;go_enter Tryz.func23,Tryz.ntmps23;go_wp2_with fail;go_returns;exact ⟨Below.refl _ _,.inr ⟨by omega,rfl⟩⟩
 have t2 : decide (20 < n) = false:=decide_eq_false h20;obtain ⟨N,hN⟩ : ∃ N : Nat,n = N:=⟨n.toNat,by omega⟩;subst hN
 have hN20 : N <= 20:=by omega
 have t2' : decide (20 < N) = false:=decide_eq_false (by omega)
 have q0 : Blk (w.alloc (.cells #[.int .i64 1,.int .i64 0,.int .i64 0,.int .i64 0,.int .i64 0,.int .i64 0,.int .i64 0,.int .i64 0,.int .i64 0,.int .i64 0,.int .i64 0,.int .i64 0,.int .i64 0,.int .i64 0,.int .i64 0,.int .i64 0,.int .i64 0,.int .i64 0,.int .i64 0,.int .i64 0,.int .i64 0,.int .i64 0,.int .i64 0,.int .i64 0,.int .i64 0,.int .i64 0,.int .i64 0,.int .i64 0,.int .i64 0,.int .i64 0,.int .i64 0,.int .i64 0,.int .i64 0,.int .i64 0,.int .i64 0,.int .i64 0,.int .i64 0,.int .i64 0,.int .i64 0,.int .i64 0,.int .i64 0] 112)) w.heap.size 112 (Zds (Zlx 0)):=by
  have e : Zds (Zlx 0) = #[.int .i64 1,.int .i64 0,.int .i64 0,.int .i64 0,.int .i64 0,.int .i64 0,.int .i64 0,.int .i64 0,.int .i64 0,.int .i64 0,.int .i64 0,.int .i64 0,.int .i64 0,.int .i64 0,.int .i64 0,.int .i64 0,.int .i64 0,.int .i64 0,.int .i64 0,.int .i64 0,.int .i64 0,.int .i64 0,.int .i64 0,.int .i64 0,.int .i64 0,.int .i64 0,.int .i64 0,.int .i64 0,.int .i64 0,.int .i64 0,.int .i64 0,.int .i64 0,.int .i64 0,.int .i64 0,.int .i64 0,.int .i64 0,.int .i64 0,.int .i64 0,.int .i64 0,.int .i64 0,.int .i64 0]:=by kernel_rfl
  rw [e];exact Blk.new w _ _
 have hB0 : Below w.heap.size w (w.alloc (.cells #[.int .i64 1,.int .i64 0,.int .i64 0,.int .i64 0,.int .i64 0,.int .i64 0,.int .i64 0,.int .i64 0,.int .i64 0,.int .i64 0,.int .i64 0,.int .i64 0,.int .i64 0,.int .i64 0,.int .i64 0,.int .i64 0,.int .i64 0,.int .i64 0,.int .i64 0,.int .i64 0,.int .i64 0,.int .i64 0,.int .i64 0,.int .i64 0,.int .i64 0,.int .i64 0,.int .i64 0,.int .i64 0,.int .i64 0,.int .i64 0,.int .i64 0,.int .i64 0,.int .i64 0,.int .i64 0,.int .i64 0,.int .i64 0,.int .i64 0,.int .i64 0,.int .i64 0,.int .i64 0,.int .i64 0] 112)):=(Below.refl _ _).alloc (Nat.le_refl _) _;obtain ⟨W0,hW0⟩ : ∃ W,w.alloc (.cells #[.int .i64 1,.int .i64 0,.int .i64 0,.int .i64 0,.int .i64 0,.int .i64 0,.int .i64 0,.int .i64 0,.int .i64 0,.int .i64 0,.int .i64 0,.int .i64 0,.int .i64 0,.int .i64 0,.int .i64 0,.int .i64 0,.int .i64 0,.int .i64 0,.int .i64 0,.int .i64 0,.int .i64 0,.int .i64 0,.int .i64 0,.int .i64 0,.int .i64 0,.int .i64 0,.int .i64 0,.int .i64 0,.int .i64 0,.int .i64 0,.int .i64 0,.int .i64 0,.int .i64 0,.int .i64 0,.int .i64 0,.int .i64 0,.int .i64 0,.int .i64 0,.int .i64 0,.int .i64 0,.int .i64 0] 112) = W:=⟨_,rfl⟩;rw [hW0] at q0 hB0;replace q0:=Zb q0;replace hB0:=Zb hB0;replace h0:=Zb h0;replace h20:=Zb h20;replace hW0:=Zb hW0;go_enter Tryz.func23,Tryz.ntmps23;go_wp2_with fail;rw [hW0.out];clear hW0
 go_loopg [5] (2 * N) (fun k iv wr=>∃ i : Nat,i + k = 2 * N + 1 /\ 1 <= i /\ iv = .int .i64 i /\ Hid (Below w.heap.size w wr) /\ Hid (Blk wr w.heap.size 112 (Zds (Zlx (i - 1)))))
 case atStart=>exact ⟨1,by omega,by omega,by go_num,hB0,q0⟩
 case round =>
  clear hB0 q0;obtain ⟨wi,rfl⟩ : ∃ x : World,x = wr:=⟨_,rfl⟩;obtain ⟨i,hik,hi1,rfl,hBi,q0⟩:=hrel
  cases gk with
  | zero =>
   obtain rfl : i = 2 * N + 1:=by omega
   have t3 : decide (((2 * N + 1 : Nat) : Int) <= 2 * (N : Int)) = false:=decide_eq_false (by omega);rw [Nat.add_sub_cancel] at q0;have hmk:=Zlv (P:=Tryz.prog) 23 29 Tryz.underlying23 hi hz0 hz1 hz2 (2 * N + 1) (by omega) wi;have hOm:=Zjm 29 wi (2 * N + 1) (by unfold maxLen;omega);obtain ⟨V1,hV1⟩ : ∃ V,wi.alloc (.cells (Z3 (List.replicate (2 * N + 1) Zaa)) 29) = V:=⟨_,rfl⟩
   have hBV : Below wi.heap.size wi V1:=by rw [<- hV1];exact (Below.refl _ _).alloc (Nat.le_refl _) _
   rw [hV1] at hOm hmk;rw [show ((2 * N + 1 : Nat) : Int) = 2 * (N : Int) + 1 by omega] at hmk;replace hOm:=Zb hOm
   have b41 : 2 * (N : Int) + 1 <= 41:=by omega
   have b00 : (0 : Int) <= 2 * (N : Int) + 1:=by omega
   go_wp2_with fail;clear hmk;have hq0:=Zb (Zd hBV q0.out);obtain ⟨D,hD⟩ : ∃ D : Int,(2 : Int) ^ (2 * N) = D:=⟨_,rfl⟩
   have hD0 : 0 < D:=by rw [<- hD];exact Int.pow_pos (by decide)
   have hD1 : D <= 1099511627776:=by
    rw [<- hD];have h:=Nat.pow_le_pow_right (n:=2) (by decide) (show 2 * N <= 40 by omega)
    have e : ((2 ^ (2 * N) : Nat) : Int) = (2 : Int) ^ (2 * N):=by push_cast;rfl
    rw [<- e];omega
   go_loopg [7,48] (2 * N + 1) (fun t rv iv wr=>∃ i : Nat,i + t = 2 * N + 1 /\ iv = .int .i64 i /\ Hid (OwnF 29 wr wi.heap.size rv ((Zca N).take i)) /\ Below wi.heap.size wi wr)
   case atStart=>exact ⟨0,by omega,rfl,Zb (by simpa using hOm.out),hBV⟩
   case round =>
    clear hOm hV1 hBV V1 hq0;obtain ⟨wj,rfl⟩ : ∃ x : World,x = wr:=⟨_,rfl⟩;obtain ⟨i,hik,rfl,hO,hBj⟩:=hrel;have hBw:=Zb (hBi.out.trans (hBj.mono hBi.out.size))
    cases gk with
    | zero =>
     obtain rfl : i = 2 * N + 1:=by omega
     have t5 : decide (((2 * N + 1 : Nat) : Int) < 2 * (N : Int) + 1) = false:=decide_eq_false (by omega);obtain ⟨rA,rc,e9,hrF⟩:=hO.out.fl
     have hrl : ((Zca N).take (2 * N + 1)).length = 2 * N + 1:=by rw [List.length_take,Zf2];omega
     rw [hrl] at e9 hrF;subst e9;rw [List.take_of_length_le (by rw [Zf2];exact Nat.le_refl _)] at hrF;replace hrF:=Zb hrF;go_wp2_with fail;go_returns;exact ⟨hBw.out,.inl ⟨by omega,by omega,_,_,rfl,hrF.out⟩⟩
    | succ t' =>
     obtain rfl : t' = 2 * N + 1 - (i + 1):=by omega
     have t5 : decide ((i : Int) < 2 * (N : Int) + 1) = true:=decide_eq_true (by omega)
     have bi : (i : Int) < 2 * (N : Int) + 1:=by omega
     have q1:=Zd hBj q0.out
     have c1 : wj.cell? ⟨w.heap.size,i,none⟩ = some (.int .i64 (pg (2 * N) i)):=by
      have h:=q1.cell i;rw [Zfj (by unfold Zlx;rw [List.getElem?_map,List.getElem?_range (by omega)];rfl)] at h;exact h
     have hpb:=Zh6 (i:=2 * N) (by omega) i;obtain ⟨x,hx⟩ : ∃ x,pg (2 * N) i = x:=⟨_,rfl⟩;have hsc:=Zqh (n:=N) (i:=i) (by omega);rw [hD,hx] at hsc;rw [hx] at c1 hpb;have hOf:=Zb (fun W=>Zsf x D W (by omega) (by omega) hD0 (by omega));replace hpb:=Zb hpb;replace hx:=Zb hx;replace hsc:=Zb hsc;clear q1;go_wp2_with fail;refine (hOf.out wj).mono ?_;rintro e w5 ⟨hb5,bbn,bbA,bbk,bbc,bbm,bbB,bbj,bbd,rfl,bbf⟩;clear c1;obtain ⟨Y0,hY0⟩ : ∃ Y,w5.alloc (.cells #[.bool bbn,.slice bbA bbk bbc,.bool bbm,.slice bbB bbj bbd] 29) = Y:=⟨_,rfl⟩
     have hBY0 : Below w5.heap.size w5 Y0:=by rw [<- hY0];exact (Below.refl _ _).alloc (Nat.le_refl _) _
     have hbY0 : Blk Y0 w5.heap.size 29 #[.bool bbn,.slice bbA bbk bbc,.bool bbm,.slice bbB bbj bbd]:=by rw [<- hY0];exact Blk.new _ _ _
     obtain ⟨z0,z1,z2,z3,-⟩:=hbY0.four;obtain ⟨Y1,hY1⟩ : ∃ Y,Y0.alloc (.cells #[.bool bbn,.slice bbA bbk bbc,.bool bbm,.slice bbB bbj bbd] 29) = Y:=⟨_,rfl⟩;obtain ⟨gz,hgz⟩ : ∃ g,Y0.heap.size = g:=⟨_,rfl⟩
     have hBY : Below Y0.heap.size Y0 Y1:=by rw [<- hY1];exact (Below.refl _ _).alloc (Nat.le_refl _) _
     have hbY : Blk Y1 gz 29 #[.bool bbn,.slice bbA bbk bbc,.bool bbm,.slice bbB bbj bbd]:=by rw [<- hY1,<- hgz];exact Blk.new _ _ _
     have hOY:=((hO.out.kept hb5).kept hBY0).kept hBY;have hfY:=(bbf.below hBY0).below hBY;have hjY : Below wi.heap.size wi Y1:=hBj.trans ((hb5.trans ((hBY0.trans (hBY.mono hBY0.size)).mono hb5.size)).mono hBj.size);have hsz:=hjY.size
     have hrl : ((Zca N).take i).length = i:=by rw [List.length_take,Zf2];omega
     have hll : ((Zca N).take i).length + 1 <= 1000:=by rw [hrl];omega
     obtain ⟨rA,rc,e9,hrF⟩:=hO.out.fl;rw [hrl] at e9;subst e9;replace hsc:=hsc.out;clear hO bbf hb5 hbY0;go_wp2_with ((try rw [hY1]);(try rw [hgz]);at_builtin;refine Zas _ rfl (.tmp 60) (.tmp 62) 23 rfl wi.heap.size 29 iF Tryz.underlying23 hi hz0 hz1 hz2 _ _ rfl hOY _ (some ⟨gz,0,none⟩) 1 1 [⟨bbn,bbA,bbk,bbc,bbm,bbB,bbj,bbd,Rat.divInt x D⟩] rfl (Zan _ hbY) rfl (by intro e he;rw [List.mem_singleton] at he;subst he;exact hfY) hll hsz ?_;intro v7 w7 hO7 hg7 hk7);have hj7:=hjY.grown hg7 hsz (fun k hk=>hOY.row_ge k hk);simp only [List.map_cons,List.map_nil] at hO7;rw [hsc] at hO7;replace hO7:=Zb hO7
     go_roundg (2 * N + 1 - (i + 1))
     case measure=>omega
     case rel=>exact ⟨i + 1,by omega,by go_num,hO7,hj7⟩
  | succ t' =>
   obtain rfl : t' = 2 * N - i:=by omega
   obtain ⟨i',hi'⟩ : ∃ j,i = j + 1:=⟨i - 1,by omega⟩;rw [show i - 1 = i' by omega] at q0;have t3 : decide ((i : Int) <= 2 * (N : Int)) = true:=decide_eq_true (by omega);replace hi':=Zb hi';go_wp2_with fail
   go_loopg [6] i (fun k kv wr=>k <= i /\ kv = .int .i64 k /\ Hid (Below w.heap.size w wr) /\ Hid (Blk wr w.heap.size 112 (Zds (Zg7 i' k))))
   case atStart=>exact ⟨Nat.le_refl _,by go_num,hBi,Zb (by rw [hi'.out,Zmx];exact q0.out)⟩
   case round =>
    clear hBi q0;obtain ⟨wj,rfl⟩ : ∃ x : World,x = wr:=⟨_,rfl⟩;obtain ⟨hki,rfl,hBj,q0⟩:=hrel;have hi2:=hi'.out
    cases gk with
    | zero =>
     clear hi2
     have t4 : decide (((0 : Nat) : Int) > 0) = false:=by decide
     go_wp2_with fail
     go_roundg (2 * N - i)
     case measure=>omega
     case rel=>exact ⟨i + 1,by omega,by omega,by go_num,hBj,Zb (by rw [Nat.add_sub_cancel,hi'.out,<- Zq8];exact q0.out)⟩
    | succ k' =>
     have hk41 : k' + 1 < 41:=by omega
     have hi40 : i' <= 40:=by omega
     clear hi2;have t4 : decide ((0 : Int) < ((k' + 1 : Nat) : Int)) = true:=decide_eq_true (by omega)
     have b1 : ((k' + 1 : Nat) : Int) < 41:=by omega
     have b0 : (k' : Int) < 41:=by omega
     have b1' : (k' : Int) + 1 < 41:=by omega
     have p1 : (0 : Int) <= (k' : Int) + 1:=by omega
     have p0 : (0 : Int) <= (k' : Int):=by omega
     have hwk : IntKind.i64.wrap (k' : Int) = (k' : Int):=IntWalk.i64_in _ (by omega)
     have c1 : wj.cell? ⟨w.heap.size,k' + 1,none⟩ = some (.int .i64 (pg i' (k' + 1))):=by
      have h:=q0.out.cell (k' + 1);rw [Zfj (Zem (by omega)),if_neg (by omega)] at h;exact h
     have c0 : wj.cell? ⟨w.heap.size,k',none⟩ = some (.int .i64 (pg i' k')):=by
      have h:=q0.out.cell k';rw [Zfj (Zem (by omega)),if_neg (by omega)] at h;exact h
     have f1:=q0.out.frozen (k' + 1);have hbx:=Zh6 (i:=i') (by omega) (k' + 1);have hby:=Zh6 (i:=i') (by omega) k';have hset:=Zb (Zq1 (i:=i') (k:=k') (by omega));obtain ⟨x,hx⟩ : ∃ x,pg i' (k' + 1) = x:=⟨_,rfl⟩;obtain ⟨y,hy⟩ : ∃ y,pg i' k' = y:=⟨_,rfl⟩;rw [hx] at c1 hbx hset;rw [hy] at c0 hby hset;replace hx:=Zb hx;replace hy:=Zb hy;have hx1:=hbx.1;have hx2:=hbx.2;have hy1:=hby.1;have hy2:=hby.2;clear hbx hby;have hwxy : IntKind.i64.wrap (x + y) = x + y:=IntWalk.i64_in _ (by omega);go_wp2_with fail;have hr : Below wj.heap.size wj wj.drew:=Zh (Below.refl _ _) 1;have hSv : wj.drew.cell? ⟨w.heap.size,k' + 1,none⟩ = some (.int .i64 x) /\ wj.drew.cell? ⟨w.heap.size,k',none⟩ = some (.int .i64 y):=⟨Za hr c1,Za hr c0⟩;have q1:=Zd hr q0.out;have f2:=q1.frozen (k' + 1);refine Z1 [9] (fun wx=>wx.cell? ⟨w.heap.size,k' + 1,none⟩ = some (.int .i64 x) /\ wx.cell? ⟨w.heap.size,k',none⟩ = some (.int .i64 y)) hmx hSv (fun hxs=>?_);refine Zsi 9 [0,1,2,3,4,5,6,7,8] rfl (by kernel_rfl) hSv ?_
     iterate 9 (refine tk1 (v:=?_) rfl (Or.inl ⟨by kernel_rfl,?_⟩) ?_;rotate_left;(· intro W2 hSw;(try dsimp only at hSw);go_simp;try with_reducible rfl);try simp only [Act.put,putL_a,putL_z,putL_s,putG_a,putG_s,putG_z])
     refine tk0 ?_;refine Zt (i:=9) rfl (by kernel_rfl) (by kernel_rfl) (fun K hK=>?_);have c1':=hSv.1;go_simp;obtain ⟨Wa,hWa,hBa,qa⟩:=Zrz (k:=k' + 1) (.int .i64 (x + y)) hBj.out (Nat.le_refl _) q0.out;rw [hset.out] at qa;rw [hWa];have hrd : Below Wa.heap.size Wa Wa.drew:=Zh (Below.refl _ _) 1;replace qa:=Zd hrd qa;replace hBa:=hBa.trans (hrd.mono hBa.size);refine hK.out _ _ ?_;clear hK K
     try simp only [Act.put,putL_a,putL_z,putL_s]
     refine Zj (by kernel_rfl) ?_ _;refine OnlyNormal.normal ?_;clear hSv hxs c1 c0 f1 f2 c1' q1 hWa;replace qa:=Zb qa;replace hBa:=Zb hBa;go_wp2_with fail
     go_roundg k'
     case measure=>omega
     case rel=>exact ⟨by omega,by go_num,hBa,qa⟩
def Zc1 (n : Nat) : List Rat:=(Zfd (2 * n)).map fun x=>Rat.divInt x (2 ^ (2 * n))
theorem Zfv (n : Nat) : Zca n = Zc1 n:=by
 unfold Zca Zc1
 apply List.ext_getElem?
 intro j;rw [List.getElem?_map,List.getElem?_map]
 by_cases h : j < 2 * n + 1
 ·rw [List.getElem?_range h,List.getElem?_eq_getElem (l:=Zfd (2 * n)) (by rw [Zd9];exact h)]
  show some (Rat.divInt ((Zfd (2 * n))[j]?.getD 0) _) = some (Rat.divInt _ _);rw [List.getElem?_eq_getElem (l:=Zfd (2 * n)) (by rw [Zd9];exact h)];rfl
 ·rw [List.getElem?_eq_none (by simp;omega),List.getElem?_eq_none (by rw [Zd9];omega)];rfl
def Zgs (r : Rat) : Bool:=decide (r.num.natAbs < 18446744073709551616) && decide (r.den < 18446744073709551616)
def Zeb : Rat -> List Rat -> List Rat
 | _,[]=>[]
 | s,q :: l=>(s + q) :: Zeb (s + q) l
def Zl7 : Rat -> List Rat -> Bool
 | _,[]=>true
 | p,q :: l=>decide (p <= q) && Zl7 q l
def weiOk (n : Nat) : Bool:=(Zc1 n).all (fun q=>decide (0 <= q.num) && Zgs q) && decide ((Zc1 n).reverse = Zc1 n) && Zl7 0 ((Zc1 n).take (n + 1)) && (Zeb 0 (Zc1 n)).all Zgs && decide ((Zeb 0 (Zc1 n)).getLast? = some 1)
theorem Zp3 : ∀ n,n <= 20 -> weiOk n = true:=by decide +kernel
theorem Ziu : ∀ (s : Rat) (l : List Rat),(Zeb s l).length = l.length
 | _,[]=>rfl
 | s,q :: l=>by show (Zeb (s + q) l).length + 1 = _;rw [Ziu];rfl
theorem Zmq : ∀ (s : Rat) (l : List Rat) (k : Nat),k < l.length -> (Zeb s l)[k]?.getD 0 = (if k = 0 then s else (Zeb s l)[k - 1]?.getD 0) + l[k]?.getD 0
 | _,[],_,h=>by simp at h
 | s,q :: l,0,_=>by simp [Zeb]
 | s,q :: l,k + 1,h=>by
  have h' : k < l.length:=by simpa using h
  have hr:=Zmq (s + q) l k h'
  have e1 : (Zeb s (q :: l))[k + 1]?.getD 0 = (Zeb (s + q) l)[k]?.getD 0:=by
   show ((s + q) :: Zeb (s + q) l)[k + 1]?.getD 0 = _;rw [List.getElem?_cons_succ]
  have e2 : (q :: l)[k + 1]?.getD 0 = l[k]?.getD 0:=by rw [List.getElem?_cons_succ]
  have e3 : (if k + 1 = 0 then s else (Zeb s (q :: l))[k + 1 - 1]?.getD 0) = (if k = 0 then s + q else (Zeb (s + q) l)[k - 1]?.getD 0):=by
   rw [if_neg (by omega),Nat.add_sub_cancel]
   cases k with
   | zero=>rfl
   | succ k =>
    rw [if_neg (by omega),Nat.add_sub_cancel];show ((s + q) :: Zeb (s + q) l)[k + 1]?.getD 0 = _;rw [List.getElem?_cons_succ]
  rw [e1,e2,e3];exact hr
theorem Zma : ∀ (p : Rat) (l : List Rat),Zl7 p l = true -> ∀ k,k + 1 < l.length -> l[k]?.getD 0 <= l[k + 1]?.getD 0
 | _,[],_,_,h=>by simp at h
 | _,[_],_,_,h=>by simp at h
 | p,q :: r :: l,h,0,_=>by
  simp only [Zl7,Bool.and_eq_true,decide_eq_true_eq] at h
  simpa using h.2.1
 | p,q :: r :: l,h,k + 1,hk=>by
  have h' : Zl7 q (r :: l) = true:=by
   have : Zl7 p (q :: r :: l) = (decide (p <= q) && Zl7 q (r :: l)):=rfl;rw [this,Bool.and_eq_true] at h;exact h.2
  have:=Zma q (r :: l) h' k (by simpa using hk)
  simpa using this
open Go.ChangeShapes Go.WideShapes Go.Deep Go.RowKit
section
variable {H : Type} {enc : TypeId × Value -> H} {P : Program} {w : World} {base : Nat} {spare : Nat -> Bool} {held : Bool}
end
section
variable {H : Type} {enc : TypeId × Value -> H} {P : Program}
theorem Ze6 {f : Func} {s : ChangeSpec} {apart fresh handsOn again : Bool} {W W' : World} {args : Array Value} {v : Value} {ds gs : List (DataW H)} {before pa pv : List MemPlace}
    (hW : DataW.Whole enc P f.params.toList s.vars apart W args.toList ds gs before)
    (hres : ∀ (b : Nat) (sp : Nat -> Bool) (hd : Bool),DataW.TrodAll enc P W' b sp hd f.resultTypes.toList (v.resultList f.resultTypes.size) (s.fn H (ds ++ gs)).results [])
    (hargs : ∀ sp : Nat -> Bool,(∀ p ∈ before,sp p.block = true) -> DataW.TrodAll enc P W' 0 sp true f.params.toList args.toList (s.fn H (ds ++ gs)).args pa)
    (hvars : ∀ sp : Nat -> Bool,(∀ p ∈ before,sp p.block = true) -> DataW.TrodVars enc P W' sp s.vars (s.fn H (ds ++ gs)).vars pv)
    (hps : before = pa ++ pv) (hb : Below W.heap.size W W')
    (hok : ∀ (j : Nat) (t : TypeId) (r : Value),f.resultTypes[j]? = some t -> (v.resultList f.resultTypes.size)[j]? = some r -> Value.okWide P W' .any 0 t r) :
    s.post enc P f apart fresh handsOn again W args v W':=by
 have hlt : ∀ p ∈ before,p.block < W.heap.size:=fun p hp=>hW.lt p hp
 have hold : ∀ p ∈ before,(fun b=>decide (b < W.heap.size)) p.block = true:=fun p hp=>by simpa using hlt p hp
 refine ⟨ds,gs,before,[],pa,pv,hW,hres _ _ _,hargs _ hold,hvars _ hold,World.keptBut_mono (fun p hp=>⟨hp,?_⟩) (hb.frame (· ∈ before)),fun _=>?_⟩
 ·rw [hps,List.mem_append] at hp
  exact Or.inr hp
 ·obtain ⟨_,_,_,_,_,hz,hn⟩:=hW
  refine ⟨hok,_,_,([] ++ pa) ++ pv,⟨[] ++ pa,pv,trodAll_append (hargs _ (fun _ _=>rfl)) (hres _ _ _),hvars _ (fun _ _=>rfl),rfl,?_,?_⟩,?_⟩
  ·intro b off hp
   have hin : MemPlace.cell b off ∈ before:=by rw [hps];simpa using hp
   rw [hb.frozen (hlt _ hin)];exact hz b off hin
  ·intro ha
   have:=hn ha;rw [hps] at this
   simpa using this
  ·intro p hp _
   rw [hps]
   simpa using hp
end
theorem Zkg {α : Type} (P : Nat -> α -> Prop) (n : Nat) (h : ∀ i,i < n -> ∃ e,P i e) : ∃ es : List α,es.length = n /\ ∀ (k : Nat) (e : α),es[k]? = some e -> P k e:=by
 induction n with
 | zero=>exact ⟨[],rfl,fun k e h=>by simp at h⟩
 | succ n ih =>
  obtain ⟨es,h1,h2⟩:=ih fun i hi=>h i (by omega)
  obtain ⟨e,he⟩:=h n (by omega);refine ⟨es ++ [e],by simp [h1],fun k e' hk=>?_⟩
  rcases Nat.lt_or_ge k es.length with hlt | hge
  ·rw [List.getElem?_append_left hlt] at hk;exact h2 k e' hk
  ·rw [List.getElem?_append_right hge] at hk
   rcases Nat.eq_or_lt_of_le hge with h0 | h0
   ·rw [show k - es.length = 0 by omega] at hk
    simp at hk
    subst hk;rw [<- h0,h1];exact he
   ·rw [List.getElem?_eq_none (by simp;omega)] at hk
    cases hk
theorem Zff {w : World} {a : Addr} {v : Value} (h : w.cell? a = some v) : a = ⟨a.block,a.off,none⟩:=by
 obtain ⟨b,o,s⟩:=a
 cases s with
 | none=>rfl
 | some s =>
  exfalso
  unfold World.cell? at h
  simp at h
  split at h <;> simp at h
section
variable {H : Type} {enc : TypeId × Value -> H} {w : World} {base : Nat} {spare : Nat -> Bool} {held : Bool}
end
theorem Fr.rawC {w : World} {na : Bool} {A : Option Addr} {n c : Nat} {nb : Bool} {B : Option Addr} {m d : Nat} {r : Rat} (h : Fr w na A n c nb B m d r) : okF na (digits r.num.natAbs) nb (digits r.den) = true /\ qOf na (digits r.num.natAbs) (digits r.den) = r:=by
 have h1:=h.1.ok;have h2:=h.2.ok;have h3:=h.1.sgEq;rw [Int.natAbs_natCast] at h2;have hd:=r.den_pos;have hr:=r.reduced;unfold Nat.Coprime at hr;refine ⟨?_,?_⟩
 ·unfold okF
  rw [h1,h2,h.neg,Zf,Zf]
  simp [length_digits_pos,hd,hr]
 ·unfold qOf
  rw [h3,Zf];exact Rat.num_divInt_den r
def Zke (q : Rat) : Nat:=max (digits q.num.natAbs).length (digits q.den).length
def Zme (e : FX) : Nat × Bool × Rat:=(e.few,e.ok,e.q)
def Zk0 (r : RX) : Nat × List (Nat × Bool × Rat):=(r.n,r.es.map Zme)
def Zdy (rs : List RX) : List (Nat × List (Nat × Bool × Rat)):=rs.map Zk0
def sigQ (Q : List (List Rat)) : List (Nat × List (Nat × Bool × Rat)):=Q.map fun r=>(r.length,r.map fun q=>(Zke q,true,q))
theorem sig_qM {rs : List RX} : qM rs = (Zdy rs).map fun x=>x.2.map fun y=>y.2.2:=by
 unfold qM Zdy;rw [List.map_map]
 refine List.map_congr_left fun r _=>?_
 simp [Zk0,Zme,Function.comp_def]
theorem Zqz {rs : List RX} : long6 rs = (decide (6 < (Zdy rs).length) || (Zdy rs).any fun x=>decide (6 < x.1)):=by
 unfold long6 Zdy;rw [List.length_map,List.any_map];rfl
theorem sig_row {k : Nat} {r : RX} : Zcg k r = (decide ((Zk0 r).1 = k) && (Zk0 r).2.all fun y=>decide (y.1 <= 64) && y.2.1):=by
 unfold Zcg Zdc Zk0;simp only [List.all_map]
 rfl
theorem Zrx {k : Nat} {rs : List RX} : rs.all (Zcg k) = (Zdy rs).all fun x=>decide (x.1 = k) && x.2.all fun y=>decide (y.1 <= 64) && y.2.1:=by
 unfold Zdy;rw [List.all_map]
 congr 1
 funext r
 exact sig_row
theorem FL.fxs {w : World} {A : Option Addr} {n c : Nat} {qs : List Rat} (h : FL w A n c qs) : ∃ es,FXL w A n c es /\ es.map FX.q = qs /\ es.map Zme = qs.map fun q=>(Zke q,true,q):=by
 obtain ⟨fs,h1,h2,h3,h4,rfl,h5⟩:=h
 have hk : ∀ e ∈ fs,FX.in_ w ⟨e.na,e.A,e.n,e.c,digits e.q.num.natAbs,e.nb,e.B,e.m,e.d,digits e.q.den⟩ /\ FX.q ⟨e.na,e.A,e.n,e.c,digits e.q.num.natAbs,e.nb,e.B,e.m,e.d,digits e.q.den⟩ = e.q /\ Zme ⟨e.na,e.A,e.n,e.c,digits e.q.num.natAbs,e.nb,e.B,e.m,e.d,digits e.q.den⟩ = (Zke e.q,true,e.q):=fun e he=>by
  have h0 : Fr w e.na e.A e.n e.c e.nb e.B e.m e.d e.q:=h4 e he;have h2:=h0.2.2.2;rw [Int.natAbs_natCast] at h2;have h6:=h0.rawC;refine ⟨⟨h0.1.2.2,h2⟩,h6.2,?_⟩;unfold Zme FX.few FX.ok FX.q Zke;rw [h6.1,h6.2];have e1:=h0.1.2.2.len;have e2:=h2.len;rw [e1,e2]
 refine ⟨fs.map fun e=>⟨e.na,e.A,e.n,e.c,digits e.q.num.natAbs,e.nb,e.B,e.m,e.d,digits e.q.den⟩,⟨by rw [List.length_map];exact h1,h2,h3,fun x hx=>?_,fun hn=>?_⟩,?_,?_⟩
 ·obtain ⟨e,he,rfl⟩:=List.mem_map.1 hx
  exact (hk e he).1
 ·obtain ⟨g,o,e1,hc⟩:=h5 hn
  refine ⟨g,o,e1,fun k x hx=>?_⟩;rw [List.getElem?_map] at hx;obtain ⟨e,he,rfl⟩:=Option.map_eq_some_iff.1 hx;exact hc k e he
 ·rw [List.map_map]
  exact List.map_congr_left fun e he=>(hk e he).2.1
 ·rw [List.map_map,List.map_map]
  exact List.map_congr_left fun e he=>(hk e he).2.2
theorem MFL.mxs {w : World} {A : Option Addr} {n c : Nat} {Q : List (List Rat)} (h : MFL w A n c Q) : ∃ rs,MXL w A n c rs /\ qM rs = Q /\ Zdy rs = sigQ Q:=by
 obtain ⟨h1,h2,h3,h4⟩:=h
 rcases Nat.eq_zero_or_pos n with h0 | h0
 ·subst h0
  obtain rfl : Q = []:=List.eq_nil_of_length_eq_zero h1;exact ⟨[],⟨rfl,h2,h3,fun r hr=>(by cases hr),fun hn=>absurd hn (Nat.lt_irrefl _)⟩,rfl,rfl⟩
 ·obtain ⟨g,o,rfl,hc⟩:=h4 h0
  obtain ⟨rs,r1,r2⟩:=Zkg (fun i (r : RX)=>w.cell? ⟨g,o + i,none⟩ = some (.slice r.A r.n r.c) /\ FXL w r.A r.n r.c r.es /\ r.es.map FX.q = Q[i]?.getD [] /\ Zk0 r = ((Q[i]?.getD []).length,(Q[i]?.getD []).map fun q=>(Zke q,true,q))) n (fun i hi=>by
   have hq : Q[i]? = some Q[i]:=List.getElem?_eq_getElem (by omega);obtain ⟨A',n',c',k0,hF⟩:=hc i _ hq;obtain ⟨es,e1,e2,e3⟩:=hF.fxs;refine ⟨⟨A',n',c',es⟩,k0,e1,by rw [hq];exact e2,?_⟩;rw [hq,Option.getD_some];unfold Zk0
   rw [e3,hF.len])
  have ext : ∀ {α : Type} (f : RX -> α) (g : List Rat -> α),(∀ (i : Nat) (r : RX),rs[i]? = some r -> f r = g (Q[i]?.getD [])) -> rs.map f = Q.map g:=fun f g hfg=>by
   apply List.ext_getElem?
   intro i;rw [List.getElem?_map,List.getElem?_map]
   by_cases hi : i < n
   ·have hr:=List.getElem?_eq_getElem (l:=rs) (i:=i) (by omega)
    have hq : Q[i]? = some Q[i]:=List.getElem?_eq_getElem (by omega);have:=hfg i _ hr;rw [hq,Option.getD_some] at this;rw [hr,hq,Option.map_some,Option.map_some,this]
   ·rw [List.getElem?_eq_none (l:=rs) (by omega),List.getElem?_eq_none (l:=Q) (by omega)];rfl
  refine ⟨rs,⟨r1,h2,h3,fun r hr=>?_,fun _=>⟨g,o,rfl,fun k r hk=>(r2 k r hk).1⟩⟩,?_,ext Zk0 (fun r=>(r.length,r.map fun q=>(Zke q,true,q))) (fun i r hr=>(r2 i r hr).2.2.2)⟩
  ·obtain ⟨k,hk,rfl⟩:=List.getElem_of_mem hr
   exact (r2 k _ (List.getElem?_eq_getElem hk)).2.1
  ·have:=ext (fun r=>r.es.map FX.q) id (fun i r hr=>(r2 i r hr).2.2.1)
   rw [List.map_id] at this;exact this
end Go.Proofs.YtpehacgjclkhmaaGreat
