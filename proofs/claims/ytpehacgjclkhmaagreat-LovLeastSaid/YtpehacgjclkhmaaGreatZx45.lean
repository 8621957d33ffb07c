/- Package lov: Line. Rows of Pascal's triangle (plain). -/
import Derived.RangeFuncBox
import Derived.Deep.LoopGhost
import Derived.Test.YtpehacgjclkhmaaGreatZx44
set_option maxRecDepth 100000
set_option maxHeartbeats 8000000
set_option linter.unusedSimpArgs false
set_option linter.unusedVariables false
namespace Go.Proofs.YtpehacgjclkhmaaGreat
open Go.RowKit Go.Shelf
attribute [local go_sem] Zg
attribute [local go_sem] Oper.semAt_some
def Zh3 (rs : List RX) (k : Int) : List Rat:=Zcg (Zi (qM rs)) k.toNat
def lineB (dir : List Rat) (s : St) (step : Int) (N : Nat) : Prop:=∀ j,j <= 2 * N -> movE s dir (Zb0 N step j) = 0
noncomputable def lineM (dir : List Rat) (s : St) (step : Int) (N : Nat) : Int:=@ite Int (lineB dir s step N) (Classical.propDecidable _) 0 24
noncomputable def lineE (rs : List RX) (s : St) (k step n : Int) : Int:=if stE s ≠ 0 then stE s else if dirE rs k ≠ 0 then dirE rs k else if 1 <= step /\ step <= 1125899906842624 /\ 0 <= n /\ n <= 20 then lineM (Zh3 rs k) s step n.toNat else 2
noncomputable def lineS (dir : List Rat) (s : St) (step : Int) (N : Nat) : List St:=(List.range (2 * N + 1)).map fun j=>movV s dir (Zb0 N step j)
def Zm9 (rs : List RX) (s : St) (k step n : Int) (w : World) (e : Ending) (w' : World) : Prop:=
 Below w.heap.size w w' /\ ((lineE rs s k step n = 0 /\ ∃ A c,e = .returned (.tuple #[.slice A (2 * n.toNat + 1) c,.int .i64 0]) /\ SL w' A (2 * n.toNat + 1) c (lineS (Zh3 rs k) s step n.toNat)) \/ (lineE rs s k step n ≠ 0 /\ e = .returned (.tuple #[.slice none 0 0,.int .i64 (lineE rs s k step n)])))
theorem Zun (s : St) (dir : List Rat) (d : Int) : movE s dir d = 0 \/ movE s dir d = 24:=by
 unfold movE;split
 ·exact .inl rfl
 ·exact .inr rfl
section
variable {rs : List RX} {s : St} {k step n E : Int}
theorem line_st (h : stE s = E) (h0 : E ≠ 0) : lineE rs s k step n = E:=by subst h;exact if_pos h0
theorem Zs0 (h : stE s = 0) (h1 : dirE rs k = E) (h0 : E ≠ 0) : lineE rs s k step n = E:=by
 subst h1;unfold lineE;rw [if_neg (by simp [h])];exact if_pos h0
theorem Ztr (h : stE s = 0) (h1 : dirE rs k = 0) (h2 : ¬ (1 <= step /\ step <= 1125899906842624 /\ 0 <= n /\ n <= 20)) : lineE rs s k step n = 2:=by
 unfold lineE;rw [if_neg (by simp [h]),if_neg (by simp [h1])];exact if_neg h2
theorem Zoe (h : stE s = 0) (h1 : dirE rs k = 0) (h2 : 1 <= step /\ step <= 1125899906842624 /\ 0 <= n /\ n <= 20) : lineE rs s k step n = lineM (Zh3 rs k) s step n.toNat:=by
 unfold lineE;rw [if_neg (by simp [h]),if_neg (by simp [h1])];exact if_pos h2
theorem Znj {dir : List Rat} {N : Nat} (h : lineB dir s step N) : lineM dir s step N = 0:=@if_pos _ (Classical.propDecidable _) h _ _ _
theorem Zsm {dir : List Rat} {N j : Nat} (hj : j <= 2 * N) (h : movE s dir (Zb0 N step j) ≠ 0) : lineM dir s step N = 24:=@if_neg _ (Classical.propDecidable _) (fun hb=>h (hb j hj)) _ _ _
end
noncomputable def flatK (dir : List Rat) (s : St) (step : Int) (N : Nat) (pre : List Nat) : List Value:=pre.flatMap fun k=>(movV s dir (Zb0 N step k)).cells.toList
theorem Zph (dir : List Rat) (s : St) (step : Int) (N : Nat) (pre : List Nat) (k : Nat) : flatK dir s step N (pre ++ [k]) = flatK dir s step N pre ++ (movV s dir (Zb0 N step k)).cells.toList:=by
 unfold flatK;rw [List.flatMap_append];simp
theorem Zii {α : Type} {f : α -> List Value} {m : Nat} (hf : ∀ x,(f x).length = m) : ∀ (l : List α) (k i : Nat) (x : α),l[k]? = some x -> i < m -> (l.flatMap f)[k * m + i]? = (f x)[i]?
 | [],k,i,x,h,_=>by simp at h
 | y :: l,0,i,x,h,hi=>by
  obtain rfl : y = x:=by simpa using h
  rw [List.flatMap_cons,Nat.zero_mul,Nat.zero_add,List.getElem?_append_left (by rw [hf];exact hi)]
 | y :: l,k + 1,i,x,h,hi=>by
  have h' : l[k]? = some x:=by simpa using h
  rw [List.flatMap_cons,List.getElem?_append_right (by rw [hf,Nat.add_mul];omega),hf,show (k + 1) * m + i - m = k * m + i by rw [Nat.add_mul];omega];exact Zii hf l k i x h' hi
theorem own_sl {w : World} {base : Nat} {v : Value} {ss : List St} (h : w.ownsRow base 46 7 v ss.length (ss.flatMap fun s=>s.cells.toList)) (hn : 0 < ss.length) : ∃ A c,v = .slice A ss.length c /\ SL w A ss.length c ss:=by
 rcases h.2 with ⟨_,h0⟩ | ⟨g,cap,cur,rfl,_,hg,h1,h2,h3,h4⟩
 ·omega
 refine ⟨_,_,rfl,rfl,h1,h2,fun k s hs=>?_⟩;have hk : k < ss.length:=(List.getElem?_eq_some_iff.1 hs).1
 have hc : ∀ i,i < 7 -> ∀ x,s.cells.toList[i]? = some x -> w.cell? ⟨g,k * 7 + i,none⟩ = some x:=fun i hi x hx=>by
  have e:=Zii (f:=fun s : St=>s.cells.toList) (m:=7) (fun _=>rfl) ss k i s hs hi;rw [hx,<- h4,List.getElem?_take_of_lt (by omega),Array.getElem?_toList] at e;simp only [World.cell?,hg];exact e
 refine ⟨g,0,rfl,?_⟩;rw [Nat.zero_add];exact ⟨hc 0 (by omega) _ rfl,hc 1 (by omega) _ rfl,hc 2 (by omega) _ rfl,hc 3 (by omega) _ rfl,hc 4 (by omega) _ rfl,hc 5 (by omega) _ rfl,hc 6 (by omega) _ rfl⟩
theorem Zo4 (W : World) (cs : Array Value) (t : TypeId) : ∀ (j : Nat) (u : Value),cs.toList[j]? = some u -> (W.alloc (.cells cs t)).cell? ((⟨W.heap.size,0,none⟩ : Addr).add j) = some u:=by
 intro j u h;have h1:=(Blk.new W t cs).cell j;rw [Array.getElem?_toList] at h;rw [h] at h1
 have e : (⟨W.heap.size,0,none⟩ : Addr).add j = ⟨W.heap.size,j,none⟩:=by
  cases j with
  | zero=>rfl
  | succ j=>simp [Addr.add]
 rw [e];exact h1
theorem Zsr {W w1 : World} {gr g15 g : Nat} {tmp : Obj} {v' : Value} (hg : (W.alloc tmp).grownBy w1 (some gr)) (hl : g < W.heap.size) (h1 : g ≠ gr) (h2 : g ≠ g15) : (w1.setCell ⟨g15,0,none⟩ v').heap[g]? = W.heap[g]?:=
 (Below.heap_setCell _ _ _ g h2).trans ((hg.block g (by simp;omega) (by simpa using h1)).trans (Below.heap_alloc W _ g hl))
theorem infoSt : (Tryz.prog.info? 46).map (fun i=>(i.zero,i.size,i.bytes)) = some (some (.agg #[.int .i64 0,.int .i64 0,.int .i64 0,.int .i64 0,.int .i64 0,.int .i64 0,.int .i64 0]),7,56):=by kernel_rfl
theorem Zed {rs : List RX} {s : St} {kk step N E : Int} {w W : World} {tmps : Array Value} (hM : lineE rs s kk step N = E) (h0 : E ≠ 0) (hB : Below w.heap.size w W) (q1 : Blk W (w.heap.size + 1) 48 #[.slice none 0 0]) (q2 : Blk W (w.heap.size + 1 + 1) 30 #[.int .i64 0])
    (h10 : tmps[10]? = some (.pointer (some ⟨w.heap.size + 1,0,none⟩))) (h11 : tmps[11]? = some (.pointer (some ⟨w.heap.size + 1 + 1,0,none⟩))) : bodyPostM Fence.wide 9 Tryz.prog Tryz.f20 (Zm9 rs s kk step N w) .ret { tmps:=tmps,defers:=[] } ((W.setCell ⟨w.heap.size + 1,0,none⟩ (.slice none 0 0)).setCell ⟨w.heap.size + 1 + 1,0,none⟩ (.int .i64 E)):=by
 have k1 : Blk (W.setCell ⟨w.heap.size + 1,0,none⟩ (.slice none 0 0)) (w.heap.size + 1) _ #[.slice none 0 0]:=q1.set_ 0 (.slice none 0 0);have k2 : Blk (W.setCell ⟨w.heap.size + 1,0,none⟩ (.slice none 0 0)) (w.heap.size + 1 + 1) _ #[.int .i64 0]:=q2.far (by simp) _;have k3 : Blk ((W.setCell ⟨w.heap.size + 1,0,none⟩ (.slice none 0 0)).setCell ⟨w.heap.size + 1 + 1,0,none⟩ (.int .i64 E)) (w.heap.size + 1) _ #[.slice none 0 0]:=k1.far (by simp) _;have k4 : Blk ((W.setCell ⟨w.heap.size + 1,0,none⟩ (.slice none 0 0)).setCell ⟨w.heap.size + 1 + 1,0,none⟩ (.int .i64 E)) (w.heap.size + 1 + 1) _ #[.int .i64 E]:=k2.set_ 0 (.int .i64 E);have c1:=k3.cell 0;have c2:=k4.cell 0;simp only [List.getElem?_toArray,List.getElem?_cons_zero] at c1 c2;have hB2 : Below w.heap.size w ((W.setCell ⟨w.heap.size + 1,0,none⟩ (.slice none 0 0)).setCell ⟨w.heap.size + 1 + 1,0,none⟩ (.int .i64 E)):=(hB.setCell (p:=⟨w.heap.size + 1,0,none⟩) (Nat.le_succ _) _).setCell (p:=⟨w.heap.size + 1 + 1,0,none⟩) (Nat.le_trans (Nat.le_succ _) (Nat.le_succ _)) _;refine ⟨.tuple #[.slice none 0 0,.int .i64 E],?_,hB2,.inr ⟨by rw [hM];exact h0,by rw [hM]⟩⟩
 simp [results,Tryz.f20,go_sem,c1,c2,h10,h11]
theorem Zs7 (s : St) (A : Option Addr) (n c : Nat) (rs : List RX) (kk step N : Int) (w : World) (h : MXL w A n c rs) (hF : FacC rs) (hf : fewM 3 rs) (hk1 : -9223372036854775808 <= kk) (hk2 : kk <= 9223372036854775807) (hd1 : -9223372036854775808 <= step) (hd2 : step <= 9223372036854775807) (hn1 : -9223372036854775808 <= N) (hn2 : N <= 9223372036854775807) :
    Calls Tryz.prog 20 #[.agg #[.int .i64 s.t,.int .i64 s.p0,.int .i64 s.p1,.int .i64 s.p2,.int .i64 s.v0,.int .i64 s.v1,.int .i64 s.v2],.slice A n c,.int .i64 kk,.int .i64 step,.int .i64 N] w (Zm9 rs s kk step N w):=by
 have h9 : 1 <= 9:=by omega
 obtain ⟨W0,hW0,hB0,⟨q0,q1,q2⟩,s0⟩:=Zbh w 46 #[.int .i64 s.t,.int .i64 s.p0,.int .i64 s.p1,.int .i64 s.p2,.int .i64 s.v0,.int .i64 s.v1,.int .i64 s.v2] 48 #[.slice none 0 0] 30 #[.int .i64 0];obtain ⟨E,hE⟩ : ∃ E,stE s = E:=⟨_,rfl⟩;have hCk:=Zb (fun W=>Zks s W);have hDr:=Zb (fun W1 (hb : Below w.heap.size w W1)=>Zdo A n c rs kk W1 (h.below hb) hF hk1 hk2);have hMS:=Zb (fun d (h0 : dirE rs kk = 0) (ha : -9223372036854775808 <= d) (hb : d <= 9223372036854775807)=>Zr2 (d:=d) h hf h0 ha hb);obtain ⟨c0,c1,c2,c3,c4,c5,c6⟩:=Zca q0;clear h hF;have hq:=Zb (And.intro q0 (And.intro q1 q2));clear q0 q1 q2;replace hW0:=Zb hW0;replace hB0:=Zb hB0;replace hE:=Zb hE;refine (callsIn_wide (n:=9)).1 ?_;refine callsIn_of_wp_marks Tryz.func20 rfl trivial ?_ rfl;simp only [Tryz.ntmps20,List.size_toArray,List.length_cons,List.length_nil,Nat.reduceAdd,Nat.reduceSub,Array.replicate_succ,Array.replicate_zero,List.push_toArray,List.append_toArray,List.nil_append,List.cons_append];have hW0':=hW0.out
 gi_wp2_with fail
 clear hW0 hW0';refine ⟨trivial,?_⟩;refine (callsIn_wide.2 (hCk.out W0)).mono ?_;rintro e w1 ⟨rfl,hb1⟩;rw [hE.out];obtain ⟨q0,q1,q2⟩:=hq.out;replace q0:=Zc hb1 q0;replace q1:=Zc hb1 q1;replace q2:=Zc hb1 q2;have hB1:=hB0.out.trans (hb1.mono hB0.out.size);clear hq hB0 hb1 c0 c1 c2 c3 c4 c5 c6;obtain ⟨r0,r1⟩ : w1.cell? ⟨w.heap.size + 1,0,none⟩ = some (.slice none 0 0) /\ w1.cell? ⟨w.heap.size + 1 + 1,0,none⟩ = some (.int .i64 0):=⟨q1.cell 0,q2.cell 0⟩;obtain ⟨f0,f1⟩ : w1.frozen? ⟨w.heap.size + 1,0,none⟩ = false /\ w1.frozen? ⟨w.heap.size + 1 + 1,0,none⟩ = false:=⟨q1.frozen 0,q2.frozen 0⟩
 by_cases h0 : E = 0
 case neg =>
  have t0 : (E == 0) = false:=by simpa using h0
  have t0' : decide (E = 0) = false:=by simpa using h0
  have t0'' : (E != 0) = true:=by rw [bne,t0];rfl
  have hM:=Zb (line_st (rs:=rs) (k:=kk) (step:=step) (n:=N) hE.out h0);replace h0:=Zb h0;have hqq:=Zb (And.intro hB1 (And.intro q1 q2));clear hB1 q1 q2 q0
  gi_wp2_with fail
  exact Zed hM.out h0.out hqq.out.1 hqq.out.2.1 hqq.out.2.2 rfl rfl
 subst h0;have hq:=Zb (And.intro q0 (And.intro q1 q2));obtain ⟨c0,c1,c2,c3,c4,c5,c6⟩:=Zca (show Blk w1 w.heap.size 46 #[.int .i64 s.t,.int .i64 s.p0,.int .i64 s.p1,.int .i64 s.p2,.int .i64 s.v0,.int .i64 s.v1,.int .i64 s.v2] from q0);clear q0 q1 q2;replace hB1:=Zb hB1
 gi_wp2_with fail
 refine ⟨trivial,?_⟩;refine (callsIn_wide.2 (hDr.out w1 hB1.out)).mono ?_;rintro e w2 ⟨hb2,hcase⟩;obtain ⟨q0,q1,q2⟩:=hq.out;replace q0:=Zc hb2 q0;replace q1:=Zc hb2 q1;replace q2:=Zc hb2 q2;have hB2:=hB1.out.trans (hb2.mono hB1.out.size);clear hq hB1 hb2 c0 c1 c2 c3 c4 c5 c6 r0 r1 f0 f1;obtain ⟨r0,r1⟩ : w2.cell? ⟨w.heap.size + 1,0,none⟩ = some (.slice none 0 0) /\ w2.cell? ⟨w.heap.size + 1 + 1,0,none⟩ = some (.int .i64 0):=⟨q1.cell 0,q2.cell 0⟩;obtain ⟨f0,f1⟩ : w2.frozen? ⟨w.heap.size + 1,0,none⟩ = false /\ w2.frozen? ⟨w.heap.size + 1 + 1,0,none⟩ = false:=⟨q1.frozen 0,q2.frozen 0⟩
 rcases hcase with ⟨hd0,A2,cA2,rfl,hFL⟩ | ⟨hdn,rfl⟩
 case inr =>
  obtain ⟨D,hD⟩ : ∃ D,dirE rs kk = D:=⟨_,rfl⟩;rw [hD] at hdn;rw [hD]
  have t0 : (D == 0) = false:=by simpa using hdn
  have t0' : decide (D = 0) = false:=by simpa using hdn
  have t0'' : (D != 0) = true:=by rw [bne,t0];rfl
  have hM:=Zb (Zs0 (step:=step) (n:=N) hE.out hD hdn);replace hdn:=Zb hdn;replace hD:=Zb hD;have hqq:=Zb (And.intro hB2 (And.intro q1 q2));clear hB2 q1 q2 q0
  gi_wp2_with fail
  exact Zed hM.out hdn.out hqq.out.1 hqq.out.2.1 hqq.out.2.2 rfl rfl
 have hcap:=hFL.cap;unfold maxLen at hcap
 by_cases harg : 1 <= step /\ step <= 1125899906842624 /\ 0 <= N /\ N <= 20
 case neg =>
  have hM:=Zb (Ztr (n:=N) (step:=step) hE.out hd0 harg);have hqq:=Zb (And.intro hB2 (And.intro q1 q2));clear hB2 q1 q2 q0 hFL hd0
  by_cases g1 : step < 1
  ·have t1 : decide (step < 1) = true:=decide_eq_true g1
   clear harg
   gi_wp2_with fail
   exact Zed hM.out (by decide) hqq.out.1 hqq.out.2.1 hqq.out.2.2 rfl rfl
  have t1 : decide (step < 1) = false:=decide_eq_false g1
  by_cases g2 : 1125899906842624 < step
  ·have t2 : decide (1125899906842624 < step) = true:=decide_eq_true g2
   clear harg
   gi_wp2_with fail
   exact Zed hM.out (by decide) hqq.out.1 hqq.out.2.1 hqq.out.2.2 rfl rfl
  have t2 : decide (1125899906842624 < step) = false:=decide_eq_false g2
  by_cases g3 : N < 0
  ·have t3 : decide (N < 0) = true:=decide_eq_true g3
   clear harg
   gi_wp2_with fail
   exact Zed hM.out (by decide) hqq.out.1 hqq.out.2.1 hqq.out.2.2 rfl rfl
  have t3 : decide (N < 0) = false:=decide_eq_false g3;have t4 : decide (20 < N) = true:=decide_eq_true (by omega);clear harg
  gi_wp2_with fail
  exact Zed hM.out (by decide) hqq.out.1 hqq.out.2.1 hqq.out.2.2 rfl rfl
 have hM:=Zb (Zoe (n:=N) (step:=step) hE.out hd0 harg);obtain ⟨g1,g2,g3,g4⟩:=harg;obtain ⟨m,hn⟩ : ∃ m : Nat,N = m:=⟨N.toNat,by omega⟩;subst hn;rw [Int.toNat_natCast] at hM
 have hn20 : m <= 20:=by omega
 have t1 : decide (step < 1) = false:=decide_eq_false (by omega);have t2 : decide (1125899906842624 < step) = false:=decide_eq_false (by omega);have t3 : decide ((m : Int) < 0) = false:=decide_eq_false (by omega);have t4 : decide (20 < (m : Int)) = false:=decide_eq_false (by omega);have t4' : decide (20 < m) = false:=decide_eq_false (by omega)
 have hMS2 : Hid (∀ k,k <= 2 * m -> Zoo (Zh3 rs kk) (Zb0 m step k)):=Zb (fun k hk=>by
  obtain ⟨b1,b2⟩:=Ziw hn20 g1 g2 hk
  exact hMS.out _ hd0 (by omega) (by omega))
 obtain ⟨dir,hdir⟩ : ∃ dir,Zh3 rs kk = dir:=⟨_,rfl⟩;replace hFL : FL w2 A2 6 cA2 (Zh3 rs kk):=hFL;rw [hdir] at hFL hMS2 hM;replace hdir:=Zb hdir;replace hd0:=Zb hd0;obtain ⟨iS,hi,hz0,hz1,hz2⟩:=info_parts infoSt;obtain ⟨c0,c1,c2,c3,c4,c5,c6⟩:=Zca (show Blk w2 w.heap.size 46 #[.int .i64 s.t,.int .i64 s.p0,.int .i64 s.p1,.int .i64 s.p2,.int .i64 s.v0,.int .i64 s.v1,.int .i64 s.v2] from q0);have hsz2:=hB2.size;have hFL':=Zb hFL;have hq:=Zb (And.intro q0 (And.intro q1 q2));replace hB2:=Zb hB2;clear q0 q1 q2 hFL hDr hCk hMS;obtain ⟨w3,hmk,hown,hgr⟩:=run_make_own (P:=Tryz.prog) w2 w.heap.size 48 46 iS _ 7 Tryz.underlying48 hi hz0 hz1 .i64 .i64 (2 * m + 1) (by rw [hz2];omega) (by unfold maxLen;omega) hsz2;rw [show ((2 * m + 1 : Nat) : Int) = 2 * (m : Int) + 1 by omega] at hmk;obtain ⟨q0,q1,q2⟩:=hq.out
 have hnk : ∀ r,(none : Option Nat) = some r -> ∃ o : Obj,w2.heap[r]? = some o /\ o.isCells = false:=fun r e=>by cases e
 have hl22 : w.heap.size + 1 + 1 < w2.heap.size:=q2.lt;replace q0:=Zbk q0 hgr hnk;replace q1:=Zbk q1 hgr hnk;replace q2:=Zbk q2 hgr hnk;have hB23 : Below w2.heap.size w2 w3:=(Below.refl _ _).grown hgr (Nat.le_refl _) (fun k e=>by cases e);have hl2:=q2.lt;have hB3 : Below w.heap.size w w3:=hB2.out.grown hgr hsz2 (fun k e=>by cases e);obtain ⟨V1,hV1,hBV1,bx1,-,kb1,sV1⟩:=Zx 48 #[.slice (some ⟨w2.heap.size,0,none⟩) 0 (2 * m + 1)] hB3 hB3.size;replace q0:=kb1 _ _ _ q0;replace q1:=kb1 _ _ _ q1;replace q2:=kb1 _ _ _ q2
 have hA1 : Below w3.heap.size w3 V1:=by rw [<- hV1];exact (Below.refl _ _).alloc (Nat.le_refl _) _
 replace hB23:=Zb (hB23.trans (hA1.mono hB23.size));have hown1:=Zb (hown.kept (World.grownBy_alloc w3 (.cells #[.slice (some ⟨w2.heap.size,0,none⟩) 0 (2 * m + 1)] 48) none) (.inr (by simp [Value.ownBlock])));rw [hV1] at hown1;obtain ⟨g15,hg15⟩ : ∃ g,w3.heap.size = g:=⟨_,rfl⟩;rw [hg15] at bx1 sV1
 have hg2 : w2.heap.size < g15:=by
  rcases hown.2 with ⟨e,_⟩ | ⟨g,_,_,e,_,hgb,_⟩
  ·cases e
  ·cases e
   rw [<- hg15];exact (Array.getElem?_eq_some_iff.1 hgb).1
 clear c0 c1 c2 c3 c4 c5 c6 hq hB2 kb1 hA1 hown hgr hnk;obtain ⟨c0,c1,c2,c3,c4,c5,c6⟩:=Zca (show Blk V1 w.heap.size 46 #[.int .i64 s.t,.int .i64 s.p0,.int .i64 s.p1,.int .i64 s.p2,.int .i64 s.v0,.int .i64 s.v1,.int .i64 s.v2] from q0);have hq:=Zb (And.intro q0 (And.intro q1 (And.intro q2 bx1)))
 have hsV : w.heap.size + 1 + 1 < g15:=by omega
 clear q0 q1 q2 bx1;replace hB3:=Zb hB3;replace hBV1:=Zb hBV1
 gi_wp2_with fail
 (try rw [hV1]);(try rw [hg15]);refine ⟨trivial,?_⟩;refine (callsIn_wide.2 (Zso s A2 6 cA2 step m V1)).mono ?_;rintro e w4 ⟨rfl,hw4⟩;clear c0 c1 c2 c3 c4 c5 c6;obtain ⟨q0,q1,q2,bx⟩:=hq.out
 have hb4 : Below V1.heap.size V1 w4:=by rw [hw4];exact (((((Below.refl _ _).alloc (Nat.le_refl _) _).alloc (by simp) _).alloc (by simp;omega) _).alloc (by simp;omega) _)
 have p0 : Blk w4 V1.heap.size 46 s.cells:=by rw [hw4];exact (((Blk.new _ _ _).alloc _).alloc _).alloc _
 have p1 : Blk w4 (V1.heap.size + 1) 23 #[.slice A2 6 cA2]:=by
  rw [hw4,show V1.heap.size + 1 = (V1.alloc (.cells #[.int .i64 s.t,.int .i64 s.p0,.int .i64 s.p1,.int .i64 s.p2,.int .i64 s.v0,.int .i64 s.v1,.int .i64 s.v2] 46)).heap.size by simp];exact ((Blk.new _ _ _).alloc _).alloc _
 have p2 : Blk w4 (V1.heap.size + 1 + 1) 2 #[.int .i64 step]:=by
  rw [hw4,show V1.heap.size + 1 + 1 = ((V1.alloc (.cells #[.int .i64 s.t,.int .i64 s.p0,.int .i64 s.p1,.int .i64 s.p2,.int .i64 s.v0,.int .i64 s.v1,.int .i64 s.v2] 46)).alloc (.cells #[.slice A2 6 cA2] 23)).heap.size by simp];exact (Blk.new _ _ _).alloc _
 have p3 : Blk w4 (V1.heap.size + 1 + 1 + 1) 3 #[.int .i64 m]:=by
  rw [hw4,show V1.heap.size + 1 + 1 + 1 = (((V1.alloc (.cells #[.int .i64 s.t,.int .i64 s.p0,.int .i64 s.p1,.int .i64 s.p2,.int .i64 s.v0,.int .i64 s.v1,.int .i64 s.v2] 46)).alloc (.cells #[.slice A2 6 cA2] 23)).alloc (.cells #[.int .i64 step] 2)).heap.size by simp];exact Blk.new _ _ _
 have hrow:=hown1.out.kept (Zgo hb4) (.inr (by simp [Value.ownBlock]));have hP : StpS w2 (V1.heap.size + 1 + 1 + 1) V1.heap.size (V1.heap.size + 1) (V1.heap.size + 1 + 1) m A2 cA2 s step w4:=⟨⟨p3.cell 0,p0,p1.cell 0,p2.cell 0⟩,(hB23.out.trans (hb4.mono (by have:=hB23.out.size;omega)))⟩;replace q0:=Zc hb4 q0;replace q1:=Zc hb4 q1;replace q2:=Zc hb4 q2;replace bx : Boxed w4 g15 48 _:=Zc hb4 bx;have hB4:=hBV1.out.trans (hb4.mono hBV1.out.size);obtain ⟨b,hb⟩ : ∃ b,V1.heap.size = b:=⟨_,rfl⟩
 have hszb : w4.heap.size = b + 4:=by rw [hw4];simp;omega
 rw [hb] at hP hb4 sV1 ⊢;clear hw4 hB23 hown1 hBV1 hB3 hq p0 p1 p2 p3 hb hV1
 have hlw4 : w.heap.size <= w4.heap.size:=by omega
 have hgb : g15 < b:=by omega
 have hw24 : w2.heap.size <= w4.heap.size:=by omega
 replace sV1:=Zb sV1;replace hszb:=Zb hszb
 gi_wp2
 refine wpIn_rangeFunc_ownH rfl h9 (gf:=117) (lb:=#[.pointer (some ⟨b + 1 + 1 + 1,0,none⟩),.pointer (some ⟨b,0,none⟩),.pointer (some ⟨b + 1,0,none⟩),.pointer (some ⟨b + 1 + 1,0,none⟩)]) rfl trivial (enters_of Tryz.func117 (by kernel_rfl) rfl)
  (Znh w2 8 (by omega) (b + 1 + 1 + 1) b (b + 1) (b + 1 + 1) m A2 cA2 s dir step hn20 g1 g2 hFL'.out hMS2.out w4 hP) KpS.trans (fun W l o o' hl h hc _=>KpS.put W l o o' (by omega) h hc) (Below.refl _ _) (fun _=>rfl)
  (fun pre W=>(((((∃ v,Boxed W g15 48 v /\ W.ownsRow w.heap.size 46 7 v pre.length (flatK dir s step m pre) /\ v = (.slice (some ⟨w2.heap.size,0,none⟩) pre.length (2 * m + 1))) /\ Blk W (w.heap.size + 1) 48 #[.slice none 0 0]) /\ Blk W (w.heap.size + 1 + 1) 30 #[.int .i64 0]) /\ ∀ k ∈ pre,movE s dir (Zb0 m step k) = 0)) /\ Below w.heap.size w W)
  (fun c pre W=>(((c = .ret /\ ∃ k ∈ pre,movE s dir (Zb0 m step k) ≠ 0) /\ Blk W (w.heap.size + 1) 48 #[.slice none 0 0]) /\ Blk W (w.heap.size + 1 + 1) 30 #[.int .i64 24]) /\ Below w.heap.size w W)
  (OwnFrom.and (OwnFrom.and (OwnFrom.and (OwnFrom.and (Own.from (holdsRow_own _ _ _ _ _ (fun pre=>pre.length) (fun pre=>flatK dir s step m pre) (fun pre v=>v = (.slice (some ⟨w2.heap.size,0,none⟩) pre.length (2 * m + 1)))) _) (Own.from (fun s X Y row hs hg hr=>Zbk hs hg hr) _)) (Own.from (fun s X Y row hs hg hr=>Zbk hs hg hr) _)) (ownFrom_pure _ _)) (ownFrom_below (Nat.le_refl _) hlw4))
  (fun c=>OwnFrom.and (OwnFrom.and (OwnFrom.and (ownFrom_pure _ _) (Own.from (fun s X Y row hs hg hr=>Zbk hs hg hr) _)) (Own.from (fun s X Y row hs hg hr=>Zbk hs hg hr) _)) (ownFrom_below (Nat.le_refl _) hlw4))
  ⟨⟨⟨⟨⟨_,bx,hrow,rfl⟩,q1⟩,q2⟩,fun k hk=>(by cases hk)⟩,hB4⟩
  (fun x a' W=>∃ gA,a' = { tmps:=#[.agg #[.int .i64 s.t,.int .i64 s.p0,.int .i64 s.p1,.int .i64 s.p2,.int .i64 s.v0,.int .i64 s.v1,.int .i64 s.v2],.slice A n c,.int .i64 kk,.int .i64 step,.int .i64 m,.pointer (some ⟨w.heap.size,0,none⟩),undef,undef,undef,undef,.pointer (some ⟨w.heap.size + 1,0,none⟩),.pointer (some ⟨w.heap.size + 1 + 1,0,none⟩),.int .i64 0,.slice A2 6 cA2,.int .i64 0,.pointer (some ⟨g15,0,none⟩),.pointer (some ⟨gA,0,none⟩),.int .i64 (movE s dir (Zb0 m step x)),.agg #[.int .i64 s.t,.int .i64 s.p0,.int .i64 s.p1,.int .i64 s.p2,.int .i64 s.v0,.int .i64 s.v1,.int .i64 s.v2],.int .i64 0,.int .i64 0,.bool false,undef,.tuple #[.slice A2 6 cA2,.int .i64 0],.slice A n c,.int .i64 kk,.tuple #[.slice A2 6 cA2,.int .i64 0],.slice A2 6 cA2,.int .i64 0,.int .i64 0,.bool false,undef,.int .i64 step,.bool false,.bool false,.int .i64 step,.bool false,.bool false,.bool false,.int .i64 m,.bool false,.bool false,.bool false,.int .i64 m,.bool false,.bool false,.int .i64 m,.int .i64 (2 * m),.int .i64 (2 * m + 1),.slice (some ⟨w2.heap.size,0,none⟩) 0 (2 * m + 1),.agg #[.int .i64 s.t,.int .i64 s.p0,.int .i64 s.p1,.int .i64 s.p2,.int .i64 s.v0,.int .i64 s.v1,.int .i64 s.v2],.slice A2 6 cA2,.int .i64 step,.int .i64 m,.func (.func 117) #[] #[.pointer (some ⟨b + 1 + 1 + 1,0,none⟩),.pointer (some ⟨b,0,none⟩),.pointer (some ⟨b + 1,0,none⟩),.pointer (some ⟨b + 1 + 1,0,none⟩)],.agg (movV s dir (Zb0 m step x)).cells,.int .i64 (movE s dir (Zb0 m step x)),undef,undef,undef,undef,undef,undef,undef,undef],defers:=[] } /\ Blk W gA 46 (movV s dir (Zb0 m step x)).cells)
  (fun x a'=>Own.from (fun s X Y row hs hg hr=>by
   obtain ⟨gA,e1,e2⟩:=hs
   exact ⟨gA,e1,Zbk e2 hg hr⟩) _) ?assign ?body ?done ?stop
 case assign =>
  intro l pre x W K hI hK;obtain ⟨⟨⟨⟨⟨v,hv,hr,rfl⟩,k1⟩,k2⟩,hz⟩,hBW⟩:=hI
  have hfin : ∀ Vm Em,movV s dir (Zb0 m step x) = Vm -> movE s dir (Zb0 m step x) = Em -> K { tmps:=#[.agg #[.int .i64 s.t,.int .i64 s.p0,.int .i64 s.p1,.int .i64 s.p2,.int .i64 s.v0,.int .i64 s.v1,.int .i64 s.v2],.slice A n c,.int .i64 kk,.int .i64 step,.int .i64 m,.pointer (some ⟨w.heap.size,0,none⟩),undef,undef,undef,undef,.pointer (some ⟨w.heap.size + 1,0,none⟩),.pointer (some ⟨w.heap.size + 1 + 1,0,none⟩),.int .i64 0,.slice A2 6 cA2,.int .i64 0,.pointer (some ⟨g15,0,none⟩),.pointer (some ⟨W.heap.size,0,none⟩),.int .i64 Em,.agg #[.int .i64 s.t,.int .i64 s.p0,.int .i64 s.p1,.int .i64 s.p2,.int .i64 s.v0,.int .i64 s.v1,.int .i64 s.v2],.int .i64 0,.int .i64 0,.bool false,undef,.tuple #[.slice A2 6 cA2,.int .i64 0],.slice A n c,.int .i64 kk,.tuple #[.slice A2 6 cA2,.int .i64 0],.slice A2 6 cA2,.int .i64 0,.int .i64 0,.bool false,undef,.int .i64 step,.bool false,.bool false,.int .i64 step,.bool false,.bool false,.bool false,.int .i64 m,.bool false,.bool false,.bool false,.int .i64 m,.bool false,.bool false,.int .i64 m,.int .i64 (2 * m),.int .i64 (2 * m + 1),.slice (some ⟨w2.heap.size,0,none⟩) 0 (2 * m + 1),.agg #[.int .i64 s.t,.int .i64 s.p0,.int .i64 s.p1,.int .i64 s.p2,.int .i64 s.v0,.int .i64 s.v1,.int .i64 s.v2],.slice A2 6 cA2,.int .i64 step,.int .i64 m,.func (.func 117) #[] #[.pointer (some ⟨b + 1 + 1 + 1,0,none⟩),.pointer (some ⟨b,0,none⟩),.pointer (some ⟨b + 1,0,none⟩),.pointer (some ⟨b + 1 + 1,0,none⟩)],.agg Vm.cells,.int .i64 Em,undef,undef,undef,undef,undef,undef,undef,undef],defers:=[] } (W.alloc (.cells Vm.cells 46)):=fun Vm Em e1 e2=>by
   subst e1 e2;exact hK _ _ ((KeepsOthers.alloc _ _).from _) (fun h=>h.below ((Below.refl _ _).alloc (Nat.le_refl _) _)) ⟨⟨⟨⟨⟨_,hv.alloc _,hr.alloc _,rfl⟩,k1.alloc _⟩,k2.alloc _⟩,hz⟩,hBW.alloc hBW.size _⟩ ⟨W.heap.size,rfl,Blk.new _ _ _⟩
  clear hK;dsimp only [encStep];obtain ⟨Vm,hVm⟩ : ∃ V,movV s dir (Zb0 m step x) = V:=⟨_,rfl⟩;obtain ⟨Em,hEm⟩ : ∃ V,movE s dir (Zb0 m step x) = V:=⟨_,rfl⟩;replace hfin:=hfin Vm Em hVm hEm;rw [hVm,hEm];clear hVm hEm hv hr k1 k2 hz hBW;dsimp only [St.cells] at hfin ⊢
  gi_wp2
  exact hfin
 case body =>
  rintro l pre x a' W hlw hrl ⟨⟨⟨⟨⟨v,hv,hr,rfl⟩,k1⟩,k2⟩,hz⟩,hBW⟩ ⟨gA,rfl,kA⟩ hpre;obtain ⟨Vm,hVm⟩ : ∃ V,movV s dir (Zb0 m step x) = V:=⟨_,rfl⟩;obtain ⟨Em,hEm⟩ : ∃ V,movE s dir (Zb0 m step x) = V:=⟨_,rfl⟩;rw [hVm] at kA;rw [hVm,hEm];have hc15:=hv.cell;obtain ⟨x0,x1,x2,x3,x4,x5,x6⟩:=Zca kA;obtain ⟨r0,r1⟩ : W.cell? ⟨w.heap.size + 1,0,none⟩ = some (.slice none 0 0) /\ W.cell? ⟨w.heap.size + 1 + 1,0,none⟩ = some (.int .i64 0):=⟨k1.cell 0,k2.cell 0⟩;obtain ⟨f0,f1⟩ : W.frozen? ⟨w.heap.size + 1,0,none⟩ = false /\ W.frozen? ⟨w.heap.size + 1 + 1,0,none⟩ = false:=⟨k1.frozen 0,k2.frozen 0⟩;dsimp only [St.cells]
  by_cases h0 : Em = 0
  case neg =>
   have h24 : Em = 24:=by
    rcases Zun s dir (Zb0 m step x) with h | h
    ·rw [hEm] at h;exact absurd h h0
    ·rw [hEm] at h;exact h
   subst h24;clear h0 hVm;replace hEm:=Zb hEm;have KO : KeepsFrom w4.heap.size W ((W.setCell ⟨w.heap.size + 1,0,none⟩ (.slice none 0 0)).setCell ⟨w.heap.size + 1 + 1,0,none⟩ (.int .i64 24)):=((KeepsOthers.setCell _ _ _).trans (KeepsOthers.setCell _ _ _)).from _;have n1 : Blk (W.setCell ⟨w.heap.size + 1,0,none⟩ (.slice none 0 0)) (w.heap.size + 1) _ #[.slice none 0 0]:=k1.set_ 0 (.slice none 0 0);have n2 : Blk (W.setCell ⟨w.heap.size + 1,0,none⟩ (.slice none 0 0)) (w.heap.size + 1 + 1) _ #[.int .i64 0]:=k2.far (by simp) _;have n3 : Blk ((W.setCell ⟨w.heap.size + 1,0,none⟩ (.slice none 0 0)).setCell ⟨w.heap.size + 1 + 1,0,none⟩ (.int .i64 24)) (w.heap.size + 1) _ #[.slice none 0 0]:=n1.far (by simp) _;have n4 : Blk ((W.setCell ⟨w.heap.size + 1,0,none⟩ (.slice none 0 0)).setCell ⟨w.heap.size + 1 + 1,0,none⟩ (.int .i64 24)) (w.heap.size + 1 + 1) _ #[.int .i64 24]:=n2.set_ 0 (.int .i64 24);have hB2 : Below w.heap.size w ((W.setCell ⟨w.heap.size + 1,0,none⟩ (.slice none 0 0)).setCell ⟨w.heap.size + 1 + 1,0,none⟩ (.int .i64 24)):=(hBW.setCell (p:=⟨w.heap.size + 1,0,none⟩) (Nat.le_succ _) _).setCell (p:=⟨w.heap.size + 1 + 1,0,none⟩) (Nat.le_trans (Nat.le_succ _) (Nat.le_succ _)) _
   gi_wp2
   exact ⟨KO,⟨⟨⟨rfl,x,by simp,by rw [hEm.out];decide⟩,n3⟩,n4⟩,hB2⟩
  subst h0
  have hflat : flatK dir s step m (pre ++ [x]) = flatK dir s step m pre ++ [.int .i64 Vm.t,.int .i64 Vm.p0,.int .i64 Vm.p1,.int .i64 Vm.p2,.int .i64 Vm.v0,.int .i64 Vm.v1,.int .i64 Vm.v2]:=by rw [Zph,hVm];rfl
  replace hflat:=Zb hflat;replace hEm:=Zb hEm;replace hVm:=Zb hVm;have hWs:=hBW.size;have hlt1:=k1.lt;have hlt2:=k2.lt
  gi_wp2_with (gi_at_builtin;refine wpListIn_append_fits _ rfl _ _ 48 rfl w.heap.size 46 iS 7 Tryz.underlying48 hi hz1 w2.heap.size pre.length (2 * m + 1) _ rfl (hr.alloc _) ⟨W.heap.size,0,none⟩ 1 1 [.int .i64 Vm.t,.int .i64 Vm.p0,.int .i64 Vm.p1,.int .i64 Vm.p2,.int .i64 Vm.v0,.int .i64 Vm.v1,.int .i64 Vm.v2] rfl rfl (Zo4 W #[.int .i64 Vm.t,.int .i64 Vm.p0,.int .i64 Vm.p1,.int .i64 Vm.p2,.int .i64 Vm.v0,.int .i64 Vm.v1,.int .i64 Vm.v2] _) (by simp [Value.oneCell']) (by omega) ?_;intro w1 hown' hgrow;obtain ⟨hv1,hv2,hr2,hk2,hb2⟩:=hv.appended (by decide) hr hWs (by omega) hown' hgrow;have hc1:=hv1.cell;have hf1:=hv1.frozen)
  have ho : ∀ g,g < W.heap.size -> g ≠ w2.heap.size -> g ≠ g15 -> (w1.setCell ⟨g15,0,none⟩ (.slice (some ⟨w2.heap.size,0,none⟩) (pre.length + 1) (2 * m + 1))).heap[g]? = W.heap[g]?:=fun g hl h1 h2=>Zsr hgrow hl h1 h2
  have hbW : w2.heap.size <= W.heap.size -> Below w2.heap.size W (w1.setCell ⟨g15,0,none⟩ (.slice (some ⟨w2.heap.size,0,none⟩) (pre.length + 1) (2 * m + 1))):=fun hs=>(((Below.refl w2.heap.size W).alloc hs _).grown hgrow (by simp;omega) (fun k e=>by cases e;exact Nat.le_refl _)).setCell (p:=⟨g15,0,none⟩) (Nat.le_of_lt hg2) _
  refine ⟨hk2.from _,fun h=>⟨⟨?_,?_,?_,?_⟩,h.2.trans (hbW h.2.size)⟩,⟨⟨⟨⟨_,hv2,?_,?_⟩,?_⟩,?_⟩,?_⟩,hBW.trans hb2⟩
  ·exact (World.cell?_of_block (ho _ (Zt h.1.1) (by simp only;omega) (by simp only;omega))).trans h.1.1
  ·exact (ho _ h.1.2.1.lt (by omega) (by omega)).trans h.1.2.1
  ·exact (World.cell?_of_block (ho _ (Zt h.1.2.2.1) (by simp only;omega) (by simp only;omega))).trans h.1.2.2.1
  ·exact (World.cell?_of_block (ho _ (Zt h.1.2.2.2) (by simp only;omega) (by simp only;omega))).trans h.1.2.2.2
  ·rw [show (pre ++ [x]).length = pre.length + 1 by simp,hflat.out];exact hr2
  ·simp
  ·exact (ho _ hlt1 (by omega) (by omega)).trans k1
  ·exact (ho _ hlt2 (by omega) (by omega)).trans k2
  ·intro k hk
   rcases List.mem_append.1 hk with hk | hk
   ·exact hz k hk
   ·rw [List.mem_singleton] at hk;subst hk;exact hEm.out
 case done =>
  rintro D ys W hD rfl ⟨⟨⟨⟨⟨v,hv,hr,rfl⟩,k1⟩,k2⟩,hz⟩,hBW⟩ hK;rw [List.length_range] at hr hv
  have hSL : ∀ Z : World,Z.ownsRow w.heap.size 46 7 (.slice (some ⟨w2.heap.size,0,none⟩) (2 * m + 1) (2 * m + 1)) (2 * m + 1) (flatK dir s step m (List.range (2 * m + 1))) -> SL Z (some ⟨w2.heap.size,0,none⟩) (2 * m + 1) (2 * m + 1) (lineS dir s step m):=fun Z hZ=>by
   have e1 : (lineS dir s step m).length = 2 * m + 1:=by simp [lineS]
   have e2 : ((lineS dir s step m).flatMap fun s=>s.cells.toList) = flatK dir s step m (List.range (2 * m + 1)):=by
    unfold lineS flatK;rw [List.flatMap_map]
   obtain ⟨A5,c5,e5,h5⟩:=own_sl (w:=Z) (base:=w.heap.size) (ss:=lineS dir s step m) (by rw [e1,e2];exact hZ) (by rw [e1];omega);rw [e1] at e5 h5
   cases e5
   exact h5
  have hEok : Hid (lineE rs s kk step m = 0):=Zb (by rw [hM.out];exact Znj (fun j hj=>hz j (List.mem_range.2 (by omega))));have hc15:=hv.cell;obtain ⟨r0,r1⟩ : W.cell? ⟨w.heap.size + 1,0,none⟩ = some (.slice none 0 0) /\ W.cell? ⟨w.heap.size + 1 + 1,0,none⟩ = some (.int .i64 0):=⟨k1.cell 0,k2.cell 0⟩;obtain ⟨f0,f1⟩ : W.frozen? ⟨w.heap.size + 1,0,none⟩ = false /\ W.frozen? ⟨w.heap.size + 1 + 1,0,none⟩ = false:=⟨k1.frozen 0,k2.frozen 0⟩;have hr2:=(hr.kept (grownBy_setCell' W (w.heap.size + 1) (.slice (some ⟨w2.heap.size,0,none⟩) (2 * m + 1) (2 * m + 1))) (.inr (by simp [Value.ownBlock];omega))).kept (grownBy_setCell' _ (w.heap.size + 1 + 1) (.int .i64 0)) (.inr (by simp [Value.ownBlock];omega));have KO : KeepsOthers W ((W.setCell ⟨w.heap.size + 1,0,none⟩ (.slice (some ⟨w2.heap.size,0,none⟩) (2 * m + 1) (2 * m + 1))).setCell ⟨w.heap.size + 1 + 1,0,none⟩ (.int .i64 0)):=(KeepsOthers.setCell _ _ _).trans (KeepsOthers.setCell _ _ _);have n1 : Blk (W.setCell ⟨w.heap.size + 1,0,none⟩ (.slice (some ⟨w2.heap.size,0,none⟩) (2 * m + 1) (2 * m + 1))) (w.heap.size + 1) _ #[(.slice (some ⟨w2.heap.size,0,none⟩) (2 * m + 1) (2 * m + 1))]:=k1.set_ 0 (.slice (some ⟨w2.heap.size,0,none⟩) (2 * m + 1) (2 * m + 1));have n2 : Blk (W.setCell ⟨w.heap.size + 1,0,none⟩ (.slice (some ⟨w2.heap.size,0,none⟩) (2 * m + 1) (2 * m + 1))) (w.heap.size + 1 + 1) _ #[.int .i64 0]:=k2.far (by simp) _
  have n3 : Blk ((W.setCell ⟨w.heap.size + 1,0,none⟩ (.slice (some ⟨w2.heap.size,0,none⟩) (2 * m + 1) (2 * m + 1))).setCell ⟨w.heap.size + 1 + 1,0,none⟩ (.int .i64 0)) (w.heap.size + 1) _ #[(.slice (some ⟨w2.heap.size,0,none⟩) (2 * m + 1) (2 * m + 1))]:=n1.far (by simp) _;have n4 : Blk ((W.setCell ⟨w.heap.size + 1,0,none⟩ (.slice (some ⟨w2.heap.size,0,none⟩) (2 * m + 1) (2 * m + 1))).setCell ⟨w.heap.size + 1 + 1,0,none⟩ (.int .i64 0)) (w.heap.size + 1 + 1) _ #[.int .i64 0]:=n2.set_ 0 (.int .i64 0);have hB2 : Below w.heap.size w ((W.setCell ⟨w.heap.size + 1,0,none⟩ (.slice (some ⟨w2.heap.size,0,none⟩) (2 * m + 1) (2 * m + 1))).setCell ⟨w.heap.size + 1 + 1,0,none⟩ (.int .i64 0)):=(hBW.setCell (p:=⟨w.heap.size + 1,0,none⟩) (Nat.le_succ _) _).setCell (p:=⟨w.heap.size + 1 + 1,0,none⟩) (Nat.le_trans (Nat.le_succ _) (Nat.le_succ _)) _;obtain ⟨Z,hZ⟩ : ∃ Z,((W.setCell ⟨w.heap.size + 1,0,none⟩ (.slice (some ⟨w2.heap.size,0,none⟩) (2 * m + 1) (2 * m + 1))).setCell ⟨w.heap.size + 1 + 1,0,none⟩ (.int .i64 0)) = Z:=⟨_,rfl⟩;replace hSL:=Zb hSL;clear hr hv
  gi_wp2
  rw [hZ] at KO n3 n4 hB2 hr2;have hK' : Z.heap[D]? = some (.deferred (some [])):=KO.same D _ hK rfl;refine ⟨by simp,.inl ⟨_,_,rfl,run_takeDeferred hK',?_⟩⟩;have c1:=cell_kept (n3.cell 0) (grownBy_putObj' Z D (.deferred none)) (fun r e=>by cases e;exact ⟨_,hK',rfl⟩);have c2:=cell_kept (n4.cell 0) (grownBy_putObj' Z D (.deferred none)) (fun r e=>by cases e;exact ⟨_,hK',rfl⟩)
  simp at c1 c2
  have hB3 : Below w.heap.size w (Z.putObj D (.deferred none)):=hB2.trans (belowK_b (w:=w) (Nat.le_refl _) Z D _ _ (by omega) hK' rfl rfl);have hr3:=ownsRow_putObj hr2 (.deferred none) hK' rfl;refine ⟨.tuple #[(.slice (some ⟨w2.heap.size,0,none⟩) (2 * m + 1) (2 * m + 1)),.int .i64 0],by simp [results,Tryz.f20,go_sem,c1,c2],hB3,.inl ⟨hEok.out,_,_,rfl,?_⟩⟩;have h9:=hSL.out _ hr3;have hdir':=hdir.out;rw [Int.toNat_natCast,hdir'];exact h9
 case stop =>
  rintro D c pre W hD ⟨k,hk,rfl⟩ ⟨⟨⟨⟨rfl,j,hj,hne⟩,k1⟩,k2⟩,hBW⟩ hK;have hEb : Hid (lineE rs s kk step m = 24):=Zb (by rw [hM.out];exact Zsm (by have:=List.mem_range.1 hj;omega) hne);have c1':=k1.cell 0;have c2':=k2.cell 0
  gi_wp2
  refine ⟨by simp,.inl ⟨_,_,rfl,run_takeDeferred hK,?_⟩⟩;have c1:=cell_kept (k1.cell 0) (grownBy_putObj' W D (.deferred none)) (fun r e=>by cases e;exact ⟨_,hK,rfl⟩);have c2:=cell_kept (k2.cell 0) (grownBy_putObj' W D (.deferred none)) (fun r e=>by cases e;exact ⟨_,hK,rfl⟩)
  simp at c1 c2
  have hB3 : Below w.heap.size w (W.putObj D (.deferred none)):=hBW.trans (belowK_b (w:=w) (Nat.le_refl _) W D _ _ (by omega) hK rfl rfl);refine ⟨.tuple #[.slice none 0 0,.int .i64 24],by simp [results,Tryz.f20,go_sem,c1,c2],hB3,.inr ⟨by rw [hEb.out];decide,by rw [hEb.out]⟩⟩
def Zf0 : Int -> List Int -> List Int
 | x,[]=>[x]
 | x,y :: l=>(x + y) :: Zf0 y l
def Ziy : Nat -> List Int
 | 0=>[1]
 | i + 1=>Zf0 0 (Ziy i)
theorem Zlk : ∀ (x : Int) (l : List Int),(Zf0 x l).length = l.length + 1
 | _,[]=>rfl
 | x,y :: l=>by show (Zf0 y l).length + 1 = _;rw [Zlk y l];rfl
theorem Znq : ∀ i,(Ziy i).length = i + 1
 | 0=>rfl
 | i + 1=>by show (Zf0 0 (Ziy i)).length = _;rw [Zlk,Znq i]
theorem Zko : ∀ (x : Int) (l : List Int) (k : Nat),(Zf0 x l)[k]?.getD 0 = (if k = 0 then x else l[k - 1]?.getD 0) + l[k]?.getD 0
 | x,[],0=>by simp [Zf0]
 | x,[],k + 1=>by simp [Zf0]
 | x,y :: l,0=>by simp [Zf0]
 | x,y :: l,k + 1=>by
  show ((x + y) :: Zf0 y l)[k + 1]?.getD 0 = _;rw [List.getElem?_cons_succ,Zko y l k]
  cases k with
  | zero=>simp
  | succ k=>simp
theorem Zn8 (i k : Nat) : (Ziy (i + 1))[k]?.getD 0 = (if k = 0 then 0 else (Ziy i)[k - 1]?.getD 0) + (Ziy i)[k]?.getD 0:=Zko 0 (Ziy i) k
theorem Zpr : ∀ i,i <= 40 -> (Ziy i).all (fun x=>decide (0 < x) && decide (x < 4611686018427387904)) = true:=by decide +kernel
open Go.RowKit
def pg (i j : Nat) : Int:=(Ziy i)[j]?.getD 0
def Zem (l : List Int) : Array Value:=(l.map (fun x=>Value.int .i64 x)).toArray
def Znn (i : Nat) : List Int:=(List.range 41).map (pg i)
def Zh9 (i k : Nat) : List Int:=(List.range 41).map fun j=>if k < j then pg (i + 1) j else pg i j
theorem Zuv {i j : Nat} (h : i < j) : pg i j = 0:=by
 unfold pg;rw [List.getElem?_eq_none (by rw [Znq];omega)];rfl
theorem Zqk (i : Nat) : pg i 0 = 1:=by
 induction i with
 | zero=>rfl
 | succ i ih =>
  have h:=Zn8 i 0;simp only [if_true] at h;have ih' : (Ziy i)[0]?.getD 0 = 1:=ih;rw [ih'] at h;exact h
theorem pg_step (i k : Nat) : pg (i + 1) (k + 1) = pg i (k + 1) + pg i k:=by
 have h:=Zn8 i (k + 1);rw [if_neg (by omega),Nat.add_sub_cancel] at h;unfold pg;rw [h];omega
theorem Zi6 {i : Nat} (h : i <= 40) (j : Nat) : 0 <= pg i j /\ pg i j < 4611686018427387904:=by
 by_cases hj : j < (Ziy i).length
 ·have h1:=Zpr i h
  rw [List.all_eq_true] at h1;have h2:=h1 _ (List.getElem_mem hj);simp only [Bool.and_eq_true,decide_eq_true_eq] at h2;unfold pg;rw [List.getElem?_eq_getElem hj];exact ⟨by have:=h2.1;simp only [Option.getD_some];omega,h2.2⟩
 ·unfold pg
  rw [List.getElem?_eq_none (by omega)];exact ⟨Int.le_refl _,by decide⟩
theorem Zot (i : Nat) : Zh9 i (i + 1) = Znn i:=by
 unfold Zh9 Znn
 apply List.map_congr_left
 intro j _
 by_cases h : i + 1 < j
 ·rw [if_pos h,Zuv (by omega),Zuv (by omega)]
 ·rw [if_neg h]
theorem Ztl (i : Nat) : Zh9 i 0 = Znn (i + 1):=by
 unfold Zh9 Znn
 apply List.map_congr_left
 intro j _
 cases j with
 | zero=>rw [if_neg (by omega),Zqk,Zqk]
 | succ j=>rw [if_pos (by omega)]
theorem Zgj {l : List Int} {k : Nat} {x : Int} (h : l[k]? = some x) : (Zem l)[k]? = some (.int .i64 x):=by
 unfold Zem;rw [List.getElem?_toArray,List.getElem?_map,h];rfl
theorem Zfg {i k j : Nat} (h : j < 41) : (Zh9 i k)[j]? = some (if k < j then pg (i + 1) j else pg i j):=by
 unfold Zh9;rw [List.getElem?_map,List.getElem?_range h];rfl
theorem Ztg {i k : Nat} (h : k + 1 < 41) : (Zem (Zh9 i (k + 1))).setIfInBounds (k + 1) (.int .i64 (pg i (k + 1) + pg i k)) = Zem (Zh9 i k):=by
 unfold Zem;rw [List.setIfInBounds_toArray]
 congr 1
 apply List.ext_getElem?
 intro j;rw [List.getElem?_set,List.length_map]
 have hl : (Zh9 i (k + 1)).length = 41:=by unfold Zh9;simp
 by_cases hj : k + 1 = j
 ·subst hj
  rw [if_pos rfl,if_pos (by rw [hl];exact h),List.getElem?_map,Zfg h,if_pos (by omega),pg_step];rfl
 ·rw [if_neg hj,List.getElem?_map,List.getElem?_map]
  by_cases h2 : j < 41
  ·rw [Zfg h2,Zfg h2]
   by_cases h3 : k + 1 < j
   ·rw [if_pos h3,if_pos (by omega)]
   ·rw [if_neg h3,if_neg (by omega)]
  ·rw [List.getElem?_eq_none (by rw [hl];omega),List.getElem?_eq_none (by unfold Zh9;simp;omega)]
def Zjv (n : Nat) : List Rat:=(List.range (2 * n + 1)).map fun j=>Rat.divInt (pg (2 * n) j) (2 ^ (2 * n))
theorem Zjc {n : Nat} : (Zjv n).length = 2 * n + 1:=by simp [Zjv]
theorem Zst {n i : Nat} (h : i < 2 * n + 1) : (Zjv n).take i ++ [Rat.divInt (pg (2 * n) i) (2 ^ (2 * n))] = (Zjv n).take (i + 1):=by
 rw [List.take_add_one];unfold Zjv;rw [List.getElem?_map,List.getElem?_range h];rfl
def WeiPost (n : Int) (w : World) (e : Ending) (w' : World) : Prop:=
 Below w.heap.size w w' /\ ((0 <= n /\ n <= 20 /\ ∃ A c,e = .returned (.tuple #[.slice A (2 * n.toNat + 1) c,.int .i64 0]) /\ FL w' A (2 * n.toNat + 1) c (Zjv n.toNat)) \/ (¬ (0 <= n /\ n <= 20) /\ e = .returned (.tuple #[.slice none 0 0,.int .i64 2])))
theorem Zuj {t : TypeId} {B : Nat} {w0 w : World} {g k : Nat} {cs : Array Value} (v : Value) (hB : Below B w0 w) (hs : B <= g) (hb : Blk w g t cs) : ∃ W,w.setCell ⟨g,k,none⟩ v = W /\ Below B w0 W /\ Blk W g t (cs.setIfInBounds k v):=
 ⟨_,rfl,hB.setCell (p:=⟨g,k,none⟩) hs _,hb.set_ k v⟩
theorem Zmf (n : Int) (w : World) (hn1 : -9223372036854775808 <= n) (hn2 : n <= 9223372036854775807) :
    Calls Tryz.prog 23 #[.int .i64 n] w (WeiPost n w):=by
 obtain ⟨iF,hi,hz0,hz1,hz2⟩:=info_parts Zfm
 have hmx : Tryz.prog.follows .mixedOrders = true:=by kernel_rfl
 by_cases h0 : n < 0
 case pos =>
  have t1 : decide (n < 0) = true:=decide_eq_true h0;go_enter Tryz.func23,Tryz.ntmps23;go_wp2_with fail;go_returns;exact ⟨Below.refl _ _,.inr ⟨by omega,rfl⟩⟩
 have t1 : decide (n < 0) = false:=decide_eq_false h0
 by_cases h20 : 20 < n
 case pos =>
  have t2 : decide (20 < n) = true:=decide_eq_true h20;go_enter Tryz.func23,Tryz.ntmps23;go_wp2_with fail;go_returns;exact ⟨Below.refl _ _,.inr ⟨by omega,rfl⟩⟩
 have t2 : decide (20 < n) = false:=decide_eq_false h20;obtain ⟨N,hN⟩ : ∃ N : Nat,n = N:=⟨n.toNat,by omega⟩;subst hN
 have hN20 : N <= 20:=by omega
 have t2' : decide (20 < N) = false:=decide_eq_false (by omega)
 have q0 : Blk (w.alloc (.cells #[.int .i64 1,.int .i64 0,.int .i64 0,.int .i64 0,.int .i64 0,.int .i64 0,.int .i64 0,.int .i64 0,.int .i64 0,.int .i64 0,.int .i64 0,.int .i64 0,.int .i64 0,.int .i64 0,.int .i64 0,.int .i64 0,.int .i64 0,.int .i64 0,.int .i64 0,.int .i64 0,.int .i64 0,.int .i64 0,.int .i64 0,.int .i64 0,.int .i64 0,.int .i64 0,.int .i64 0,.int .i64 0,.int .i64 0,.int .i64 0,.int .i64 0,.int .i64 0,.int .i64 0,.int .i64 0,.int .i64 0,.int .i64 0,.int .i64 0,.int .i64 0,.int .i64 0,.int .i64 0,.int .i64 0] 112)) w.heap.size 112 (Zem (Znn 0)):=by
  have e : Zem (Znn 0) = #[.int .i64 1,.int .i64 0,.int .i64 0,.int .i64 0,.int .i64 0,.int .i64 0,.int .i64 0,.int .i64 0,.int .i64 0,.int .i64 0,.int .i64 0,.int .i64 0,.int .i64 0,.int .i64 0,.int .i64 0,.int .i64 0,.int .i64 0,.int .i64 0,.int .i64 0,.int .i64 0,.int .i64 0,.int .i64 0,.int .i64 0,.int .i64 0,.int .i64 0,.int .i64 0,.int .i64 0,.int .i64 0,.int .i64 0,.int .i64 0,.int .i64 0,.int .i64 0,.int .i64 0,.int .i64 0,.int .i64 0,.int .i64 0,.int .i64 0,.int .i64 0,.int .i64 0,.int .i64 0,.int .i64 0]:=by kernel_rfl
  rw [e];exact Blk.new w _ _
 have hB0 : Below w.heap.size w (w.alloc (.cells #[.int .i64 1,.int .i64 0,.int .i64 0,.int .i64 0,.int .i64 0,.int .i64 0,.int .i64 0,.int .i64 0,.int .i64 0,.int .i64 0,.int .i64 0,.int .i64 0,.int .i64 0,.int .i64 0,.int .i64 0,.int .i64 0,.int .i64 0,.int .i64 0,.int .i64 0,.int .i64 0,.int .i64 0,.int .i64 0,.int .i64 0,.int .i64 0,.int .i64 0,.int .i64 0,.int .i64 0,.int .i64 0,.int .i64 0,.int .i64 0,.int .i64 0,.int .i64 0,.int .i64 0,.int .i64 0,.int .i64 0,.int .i64 0,.int .i64 0,.int .i64 0,.int .i64 0,.int .i64 0,.int .i64 0] 112)):=(Below.refl _ _).alloc (Nat.le_refl _) _;obtain ⟨W0,hW0⟩ : ∃ W,w.alloc (.cells #[.int .i64 1,.int .i64 0,.int .i64 0,.int .i64 0,.int .i64 0,.int .i64 0,.int .i64 0,.int .i64 0,.int .i64 0,.int .i64 0,.int .i64 0,.int .i64 0,.int .i64 0,.int .i64 0,.int .i64 0,.int .i64 0,.int .i64 0,.int .i64 0,.int .i64 0,.int .i64 0,.int .i64 0,.int .i64 0,.int .i64 0,.int .i64 0,.int .i64 0,.int .i64 0,.int .i64 0,.int .i64 0,.int .i64 0,.int .i64 0,.int .i64 0,.int .i64 0,.int .i64 0,.int .i64 0,.int .i64 0,.int .i64 0,.int .i64 0,.int .i64 0,.int .i64 0,.int .i64 0,.int .i64 0] 112) = W:=⟨_,rfl⟩;rw [hW0] at q0 hB0;replace q0:=Zb q0;replace hB0:=Zb hB0;replace h0:=Zb h0;replace h20:=Zb h20;replace hW0:=Zb hW0;go_enter Tryz.func23,Tryz.ntmps23;go_wp2_with fail;rw [hW0.out];clear hW0
 go_loopg [5] (2 * N) (fun k iv wr=>∃ i : Nat,i + k = 2 * N + 1 /\ 1 <= i /\ iv = .int .i64 i /\ Hid (Below w.heap.size w wr) /\ Hid (Blk wr w.heap.size 112 (Zem (Znn (i - 1)))))
 case atStart=>exact ⟨1,by omega,by omega,by go_num,hB0,q0⟩
 case round =>
  clear hB0 q0;obtain ⟨wi,rfl⟩ : ∃ x : World,x = wr:=⟨_,rfl⟩;obtain ⟨i,hik,hi1,rfl,hBi,q0⟩:=hrel
  cases gk with
  | zero =>
   obtain rfl : i = 2 * N + 1:=by omega
   have t3 : decide (((2 * N + 1 : Nat) : Int) <= 2 * (N : Int)) = false:=decide_eq_false (by omega);rw [Nat.add_sub_cancel] at q0;have hmk:=Znm (P:=Tryz.prog) 23 29 Tryz.underlying23 hi hz0 hz1 hz2 (2 * N + 1) (by omega) wi;have hOm:=Zkq 29 wi (2 * N + 1) (by unfold maxLen;omega);obtain ⟨V1,hV1⟩ : ∃ V,wi.alloc (.cells (Zz (List.replicate (2 * N + 1) Zae)) 29) = V:=⟨_,rfl⟩
   have hBV : Below wi.heap.size wi V1:=by rw [<- hV1];exact (Below.refl _ _).alloc (Nat.le_refl _) _
   rw [hV1] at hOm hmk;rw [show ((2 * N + 1 : Nat) : Int) = 2 * (N : Int) + 1 by omega] at hmk;replace hOm:=Zb hOm
   have b41 : 2 * (N : Int) + 1 <= 41:=by omega
   have b00 : (0 : Int) <= 2 * (N : Int) + 1:=by omega
   go_wp2_with fail;clear hmk;have hq0:=Zb (Zc hBV q0.out);obtain ⟨D,hD⟩ : ∃ D : Int,(2 : Int) ^ (2 * N) = D:=⟨_,rfl⟩
   have hD0 : 0 < D:=by rw [<- hD];exact Int.pow_pos (by decide)
   have hD1 : D <= 1099511627776:=by
    rw [<- hD];have h:=Nat.pow_le_pow_right (n:=2) (by decide) (show 2 * N <= 40 by omega)
    have e : ((2 ^ (2 * N) : Nat) : Int) = (2 : Int) ^ (2 * N):=by push_cast;rfl
    rw [<- e];omega
   go_loopg [7,48] (2 * N + 1) (fun t rv iv wr=>∃ i : Nat,i + t = 2 * N + 1 /\ iv = .int .i64 i /\ Hid (OwnF 29 wr wi.heap.size rv ((Zjv N).take i)) /\ Below wi.heap.size wi wr)
   case atStart=>exact ⟨0,by omega,rfl,Zb (by simpa using hOm.out),hBV⟩
   case round =>
    clear hOm hV1 hBV V1 hq0;obtain ⟨wj,rfl⟩ : ∃ x : World,x = wr:=⟨_,rfl⟩;obtain ⟨i,hik,rfl,hO,hBj⟩:=hrel;have hBw:=Zb (hBi.out.trans (hBj.mono hBi.out.size))
    cases gk with
    | zero =>
     obtain rfl : i = 2 * N + 1:=by omega
     have t5 : decide (((2 * N + 1 : Nat) : Int) < 2 * (N : Int) + 1) = false:=decide_eq_false (by omega);obtain ⟨rA,rc,e9,hrF⟩:=hO.out.fl
     have hrl : ((Zjv N).take (2 * N + 1)).length = 2 * N + 1:=by rw [List.length_take,Zjc];omega
     rw [hrl] at e9 hrF;subst e9;rw [List.take_of_length_le (by rw [Zjc];exact Nat.le_refl _)] at hrF;replace hrF:=Zb hrF;go_wp2_with fail;go_returns;exact ⟨hBw.out,.inl ⟨by omega,by omega,_,_,rfl,hrF.out⟩⟩
    | succ t' =>
     obtain rfl : t' = 2 * N + 1 - (i + 1):=by omega
     have t5 : decide ((i : Int) < 2 * (N : Int) + 1) = true:=decide_eq_true (by omega)
     have bi : (i : Int) < 2 * (N : Int) + 1:=by omega
     have q1:=Zc hBj q0.out
     have c1 : wj.cell? ⟨w.heap.size,i,none⟩ = some (.int .i64 (pg (2 * N) i)):=by
      have h:=q1.cell i;rw [Zgj (by unfold Znn;rw [List.getElem?_map,List.getElem?_range (by omega)];rfl)] at h;exact h
     have hpb:=Zi6 (i:=2 * N) (by omega) i;obtain ⟨x,hx⟩ : ∃ x,pg (2 * N) i = x:=⟨_,rfl⟩;have hsc:=Zst (n:=N) (i:=i) (by omega);rw [hD,hx] at hsc;rw [hx] at c1 hpb;have hOf:=Zb (fun W=>Zqh x D W (by omega) (by omega) hD0 (by omega));replace hpb:=Zb hpb;replace hx:=Zb hx;replace hsc:=Zb hsc;clear q1;go_wp2_with fail;refine (hOf.out wj).mono ?_;rintro e w5 ⟨hb5,bbn,bbA,bbk,bbc,bbm,bbB,bbj,bbd,rfl,bbf⟩;clear c1;obtain ⟨Y0,hY0⟩ : ∃ Y,w5.alloc (.cells #[.bool bbn,.slice bbA bbk bbc,.bool bbm,.slice bbB bbj bbd] 29) = Y:=⟨_,rfl⟩
     have hBY0 : Below w5.heap.size w5 Y0:=by rw [<- hY0];exact (Below.refl _ _).alloc (Nat.le_refl _) _
     have hbY0 : Blk Y0 w5.heap.size 29 #[.bool bbn,.slice bbA bbk bbc,.bool bbm,.slice bbB bbj bbd]:=by rw [<- hY0];exact Blk.new _ _ _
     obtain ⟨z0,z1,z2,z3,-⟩:=hbY0.four;obtain ⟨Y1,hY1⟩ : ∃ Y,Y0.alloc (.cells #[.bool bbn,.slice bbA bbk bbc,.bool bbm,.slice bbB bbj bbd] 29) = Y:=⟨_,rfl⟩;obtain ⟨gz,hgz⟩ : ∃ g,Y0.heap.size = g:=⟨_,rfl⟩
     have hBY : Below Y0.heap.size Y0 Y1:=by rw [<- hY1];exact (Below.refl _ _).alloc (Nat.le_refl _) _
     have hbY : Blk Y1 gz 29 #[.bool bbn,.slice bbA bbk bbc,.bool bbm,.slice bbB bbj bbd]:=by rw [<- hY1,<- hgz];exact Blk.new _ _ _
     have hOY:=((hO.out.kept hb5).kept hBY0).kept hBY;have hfY:=(bbf.below hBY0).below hBY;have hjY : Below wi.heap.size wi Y1:=hBj.trans ((hb5.trans ((hBY0.trans (hBY.mono hBY0.size)).mono hb5.size)).mono hBj.size);have hsz:=hjY.size
     have hrl : ((Zjv N).take i).length = i:=by rw [List.length_take,Zjc];omega
     have hll : ((Zjv N).take i).length + 1 <= 1000:=by rw [hrl];omega
     obtain ⟨rA,rc,e9,hrF⟩:=hO.out.fl;rw [hrl] at e9;subst e9;replace hsc:=hsc.out;clear hO bbf hb5 hbY0;go_wp2_with ((try rw [hY1]);(try rw [hgz]);at_builtin;refine Zac _ rfl (.tmp 60) (.tmp 62) 23 rfl wi.heap.size 29 iF Tryz.underlying23 hi hz0 hz1 hz2 _ _ rfl hOY _ (some ⟨gz,0,none⟩) 1 1 [⟨bbn,bbA,bbk,bbc,bbm,bbB,bbj,bbd,Rat.divInt x D⟩] rfl (Zad _ hbY) rfl (by intro e he;rw [List.mem_singleton] at he;subst he;exact hfY) hll hsz ?_;intro v7 w7 hO7 hg7 hk7);have hj7:=hjY.grown hg7 hsz (fun k hk=>hOY.row_ge k hk);simp only [List.map_cons,List.map_nil] at hO7;rw [hsc] at hO7;replace hO7:=Zb hO7
     go_roundg (2 * N + 1 - (i + 1))
     case measure=>omega
     case rel=>exact ⟨i + 1,by omega,by go_num,hO7,hj7⟩
  | succ t' =>
   obtain rfl : t' = 2 * N - i:=by omega
   obtain ⟨i',hi'⟩ : ∃ j,i = j + 1:=⟨i - 1,by omega⟩;rw [show i - 1 = i' by omega] at q0;have t3 : decide ((i : Int) <= 2 * (N : Int)) = true:=decide_eq_true (by omega);replace hi':=Zb hi';go_wp2_with fail
   go_loopg [6] i (fun k kv wr=>k <= i /\ kv = .int .i64 k /\ Hid (Below w.heap.size w wr) /\ Hid (Blk wr w.heap.size 112 (Zem (Zh9 i' k))))
   case atStart=>exact ⟨Nat.le_refl _,by go_num,hBi,Zb (by rw [hi'.out,Zot];exact q0.out)⟩
   case round =>
    clear hBi q0;obtain ⟨wj,rfl⟩ : ∃ x : World,x = wr:=⟨_,rfl⟩;obtain ⟨hki,rfl,hBj,q0⟩:=hrel;have hi2:=hi'.out
    cases gk with
    | zero =>
     clear hi2
     have t4 : decide (((0 : Nat) : Int) > 0) = false:=by decide
     go_wp2_with fail
     go_roundg (2 * N - i)
     case measure=>omega
     case rel=>exact ⟨i + 1,by omega,by omega,by go_num,hBj,Zb (by rw [Nat.add_sub_cancel,hi'.out,<- Ztl];exact q0.out)⟩
    | succ k' =>
     have hk41 : k' + 1 < 41:=by omega
     have hi40 : i' <= 40:=by omega
     clear hi2;have t4 : decide ((0 : Int) < ((k' + 1 : Nat) : Int)) = true:=decide_eq_true (by omega)
     have b1 : ((k' + 1 : Nat) : Int) < 41:=by omega
     have b0 : (k' : Int) < 41:=by omega
     have b1' : (k' : Int) + 1 < 41:=by omega
     have p1 : (0 : Int) <= (k' : Int) + 1:=by omega
     have p0 : (0 : Int) <= (k' : Int):=by omega
     have hwk : IntKind.i64.wrap (k' : Int) = (k' : Int):=IntWalk.i64_in _ (by omega)
     have c1 : wj.cell? ⟨w.heap.size,k' + 1,none⟩ = some (.int .i64 (pg i' (k' + 1))):=by
      have h:=q0.out.cell (k' + 1);rw [Zgj (Zfg (by omega)),if_neg (by omega)] at h;exact h
     have c0 : wj.cell? ⟨w.heap.size,k',none⟩ = some (.int .i64 (pg i' k')):=by
      have h:=q0.out.cell k';rw [Zgj (Zfg (by omega)),if_neg (by omega)] at h;exact h
     have f1:=q0.out.frozen (k' + 1);have hbx:=Zi6 (i:=i') (by omega) (k' + 1);have hby:=Zi6 (i:=i') (by omega) k';have hset:=Zb (Ztg (i:=i') (k:=k') (by omega));obtain ⟨x,hx⟩ : ∃ x,pg i' (k' + 1) = x:=⟨_,rfl⟩;obtain ⟨y,hy⟩ : ∃ y,pg i' k' = y:=⟨_,rfl⟩;rw [hx] at c1 hbx hset;rw [hy] at c0 hby hset;replace hx:=Zb hx;replace hy:=Zb hy;have hx1:=hbx.1;have hx2:=hbx.2;have hy1:=hby.1;have hy2:=hby.2;clear hbx hby;have hwxy : IntKind.i64.wrap (x + y) = x + y:=IntWalk.i64_in _ (by omega);go_wp2_with fail;have hr : Below wj.heap.size wj wj.drew:=Zj (Below.refl _ _) 1;have hSv : wj.drew.cell? ⟨w.heap.size,k' + 1,none⟩ = some (.int .i64 x) /\ wj.drew.cell? ⟨w.heap.size,k',none⟩ = some (.int .i64 y):=⟨Za hr c1,Za hr c0⟩;have q1:=Zc hr q0.out;have f2:=q1.frozen (k' + 1);refine Z4 [9] (fun wx=>wx.cell? ⟨w.heap.size,k' + 1,none⟩ = some (.int .i64 x) /\ wx.cell? ⟨w.heap.size,k',none⟩ = some (.int .i64 y)) hmx hSv (fun hxs=>?_);refine Zu3 9 [0,1,2,3,4,5,6,7,8] rfl (by kernel_rfl) hSv ?_
     iterate 9 (refine tk1 (v:=?_) rfl (Or.inl ⟨by kernel_rfl,?_⟩) ?_;rotate_left;(· intro W2 hSw;(try dsimp only at hSw);go_simp;try with_reducible rfl);try simp only [Act.put,putL_a,putL_z,putL_s,putG_a,putG_s,putG_z])
     refine tk0 ?_;refine Zp (i:=9) rfl (by kernel_rfl) (by kernel_rfl) (fun K hK=>?_);have c1':=hSv.1;go_simp;obtain ⟨Wa,hWa,hBa,qa⟩:=Zuj (k:=k' + 1) (.int .i64 (x + y)) hBj.out (Nat.le_refl _) q0.out;rw [hset.out] at qa;rw [hWa];have hrd : Below Wa.heap.size Wa Wa.drew:=Zj (Below.refl _ _) 1;replace qa:=Zc hrd qa;replace hBa:=hBa.trans (hrd.mono hBa.size);refine hK.out _ _ ?_;clear hK K
     try simp only [Act.put,putL_a,putL_z,putL_s]
     refine Zl (by kernel_rfl) ?_ _;refine OnlyNormal.normal ?_;clear hSv hxs c1 c0 f1 f2 c1' q1 hWa;replace qa:=Zb qa;replace hBa:=Zb hBa;go_wp2_with fail
     go_roundg k'
     case measure=>omega
     case rel=>exact ⟨by omega,by go_num,hBa,qa⟩
def covS (l : List (Nat × List (Nat × Bool × Rat))) : Int:=if (decide (6 < l.length) || l.any fun x=>decide (6 < x.1)) = true then 4 else if l.length = 0 then 8 else if (l.all fun x=>decide (x.1 = l.length) && x.2.all fun y=>decide (y.1 <= 64) && y.2.1) = true then (if (Zeu (l.map fun x=>x.2.map fun y=>y.2.2) && Zog (Zi (l.map fun x=>x.2.map fun y=>y.2.2)) l.length) = true then 0 else 8) else 8
theorem covE_S (rs : List RX) : Zax rs = covS (Zes rs):=by
 have hl : (Zes rs).length = rs.length:=by simp [Zes]
 unfold Zax covS;rw [Ztb,Zug,sig_qM,hl]
theorem sig_few {rs : List RX} {Q : List (List Rat)} {k : Nat} (h : Zes rs = sigQ Q) (hQ : ∀ r ∈ Q,∀ q ∈ r,Zgq q <= k) : fewM k rs:=fun r hr e he=>by
 have h1 : Zmj r ∈ Zes rs:=List.mem_map.2 ⟨r,hr,rfl⟩;rw [h] at h1;obtain ⟨row,h2,h3⟩:=List.mem_map.1 h1
 have h4 : r.es.map Zjm = row.map fun q=>(Zgq q,true,q):=(congrArg Prod.snd h3).symm
 have h5 : Zjm e ∈ r.es.map Zjm:=List.mem_map.2 ⟨e,he,rfl⟩;rw [h4] at h5;obtain ⟨q,h6,h7⟩:=List.mem_map.1 h5;have h8 : Zgq q = e.few:=congrArg Prod.fst h7;exact .inl (by rw [<- h8];exact hQ row h2 q h6)
theorem Zs3 {rs : List RX} (h : Zes rs = sigQ unitQ) : Zax rs = 0:=by
 rw [covE_S,h];decide +kernel
theorem Zg6 {rs : List RX} (h : Zes rs = sigQ unitQ) : fewM 1 rs:=sig_few h (by decide +kernel)
theorem fewM.mono {rs : List RX} {k m : Nat} (h : fewM k rs) (hk : k <= m) : fewM m rs:=fun r hr e he=>by
 rcases h r hr e he with h | h
 ·exact .inl (by omega)
 ·exact .inr h
theorem Zhm {rs : List RX} (h : Zes rs = sigQ unitQ) {k : Int} (hk : 0 <= k /\ k <= 5) : dirE rs k = 0:=by
 have hl : rs.length = 6:=by
  have : (Zes rs).length = rs.length:=by simp [Zes]
  rw [<- this,h];rfl
 unfold dirE;rw [if_pos (Zs3 h),if_pos hl,if_pos hk]
def Zda : List Rat:=[1,1 / 4,0,0,0,0]
theorem Zs9 : Zcg (Zi unitQ) 0 = Zda:=by decide +kernel
def Zcn : St:=⟨0,1099511627776,0,0,0,0,0⟩
def Zli : St:=⟨0,1099511627772,-1,0,0,0,0⟩
def Zlb : St:=⟨0,1099511627780,1,0,0,0,0⟩
def nearB (dir : List Rat) (d : Int) : Bool:=(List.range 6).all fun i=>decide (-1152921504606846976 <= Zdg dir d i) && decide (Zdg dir d i <= 1152921504606846976)
theorem Ztq {s : St} {dir : List Rat} {d : Int} (h : nearB dir d = true) (h2 : stE (mvS s (Zdg dir d) 6) = 0) : movE s dir d = 0 /\ movV s dir d = mvS s (Zdg dir d) 6:=
 Zqz (fun i hi=>by
  have h3:=List.all_eq_true.1 h i (List.mem_range.2 hi);simp only [Bool.and_eq_true,decide_eq_true_eq] at h3
  exact h3) h2
theorem Zdz : ∀ j,j < 3 -> nearB Zda (Zb0 1 4 j) = true /\ stE (mvS Zcn (Zdg Zda (Zb0 1 4 j)) 6) = 0:=by
 intro j hj
 match j,hj with
 | 0,_=>exact ⟨by decide +kernel,by decide +kernel⟩
 | 1,_=>exact ⟨by decide +kernel,by decide +kernel⟩
 | 2,_=>exact ⟨by decide +kernel,by decide +kernel⟩
theorem Zpt : lineB Zda Zcn 4 1:=fun j hj=>(Ztq (Zdz j (by omega)).1 (Zdz j (by omega)).2).1
theorem Zqf : lineS Zda Zcn 4 1 = [Zli,Zcn,Zlb]:=by
 have e : ∀ j,j < 3 -> movV Zcn Zda (Zb0 1 4 j) = mvS Zcn (Zdg Zda (Zb0 1 4 j)) 6:=fun j hj=>(Ztq (Zdz j hj).1 (Zdz j hj).2).2
 show [movV Zcn Zda (Zb0 1 4 0),movV Zcn Zda (Zb0 1 4 1),movV Zcn Zda (Zb0 1 4 2)] = _;rw [e 0 (by decide),e 1 (by decide),e 2 (by decide)]
 have n : ∀ (a b : St),(decide (a.t = b.t) && decide (a.p0 = b.p0) && decide (a.p1 = b.p1) && decide (a.p2 = b.p2) && decide (a.v0 = b.v0) && decide (a.v1 = b.v1) && decide (a.v2 = b.v2)) = true -> a = b:=fun a b h=>by
  simp only [Bool.and_eq_true,decide_eq_true_eq] at h;obtain ⟨⟨⟨⟨⟨⟨h0,h1⟩,h2⟩,h3⟩,h4⟩,h5⟩,h6⟩:=h;exact St.ext' h0 h1 h2 h3 h4 h5 h6
 rw [n (mvS Zcn (Zdg Zda (Zb0 1 4 0)) 6) Zli (by decide +kernel),n (mvS Zcn (Zdg Zda (Zb0 1 4 1)) 6) Zcn (by decide +kernel),n (mvS Zcn (Zdg Zda (Zb0 1 4 2)) 6) Zlb (by decide +kernel)]
theorem Zk8 {rs : List RX} (hq : qM rs = unitQ) (h : Zes rs = sigQ unitQ) : lineE rs Zcn 0 4 1 = 0 /\ lineS (Zh3 rs 0) Zcn 4 (1 : Int).toNat = [Zli,Zcn,Zlb] /\ Zcg (Zi (qM rs)) (0 : Int).toNat = Zda:=by
 have hd : Zcg (Zi (qM rs)) (0 : Int).toNat = Zda:=by rw [hq];exact Zs9
 have hl : Zh3 rs 0 = Zda:=hd;refine ⟨?_,by rw [hl];exact Zqf,hd⟩;rw [Zoe (by decide +kernel) (Zhm h (by decide)) (by decide),hl];exact Znj Zpt
theorem Zrk : Zjv 1 = [1 / 4,1 / 2,1 / 4]:=by decide +kernel
theorem FL.made {w : World} {g : Nat} {t : TypeId} {es : List FE} (h : Blk w g t (Zz es)) (he : ∀ e ∈ es,e.in_ w) (hn : es.length <= 1000) : FL w (some ⟨g,0,none⟩) es.length es.length (es.map FE.q):=by
 refine ⟨es,rfl,Nat.le_refl _,by unfold maxLen;omega,he,rfl,fun _=>⟨g,0,rfl,fun k e hk=>?_⟩⟩;obtain ⟨h0,h1,h2,h3⟩:=Zcc hk;simp only [Nat.zero_add];exact ⟨(h.cell _).trans h0,(h.cell _).trans h1,(h.cell _).trans h2,(h.cell _).trans h3⟩
theorem SL.made {w : World} {g : Nat} {t : TypeId} {ss : List St} (h : Blk w g t (ss.flatMap fun s=>s.cells.toList).toArray) (hn : ss.length <= 1000) : SL w (some ⟨g,0,none⟩) ss.length ss.length ss:=by
 refine ⟨rfl,Nat.le_refl _,by unfold maxLen;omega,fun k s hs=>⟨g,0,rfl,?_⟩⟩
 have hc : ∀ i,i < 7 -> ∀ x,s.cells.toList[i]? = some x -> w.cell? ⟨g,k * 7 + i,none⟩ = some x:=fun i hi x hx=>by
  have e:=Zii (f:=fun s : St=>s.cells.toList) (m:=7) (fun _=>rfl) ss k i s hs hi;rw [hx] at e;rw [h.cell,List.getElem?_toArray];exact e
 rw [Nat.zero_add];exact ⟨hc 0 (by omega) _ rfl,hc 1 (by omega) _ rfl,hc 2 (by omega) _ rfl,hc 3 (by omega) _ rfl,hc 4 (by omega) _ rfl,hc 5 (by omega) _ rfl,hc 6 (by omega) _ rfl⟩
theorem one_four : Rat.divInt 1 4 = 1 / 4 /\ Rat.divInt 1 2 = 1 / 2 /\ Rat.divInt 1 1 = 1 /\ Rat.divInt 0 1 = 0:=⟨by decide +kernel,by decide +kernel,by decide +kernel,by decide +kernel⟩
theorem Zs5 (w : World) : Calls Tryz.prog 18 #[] w fun e w'=>e = .returned (.bool true) /\ Below w.heap.size w w':=by
 have hmx : Tryz.prog.follows .mixedOrders = true:=by kernel_rfl
 have hBB : Hid (Below w.heap.size w w):=Zb (Below.refl _ _);go_enter Tryz.func18,Tryz.ntmps18;go_wp2_with fail;refine (Zmf 1 w (by decide) (by decide)).mono ?_;rintro e w1 ⟨hb1,hwe⟩;have hB2:=Zb (hBB.out.trans (hb1.mono hBB.out.size));clear hBB;clear hb1
 rcases hwe with ⟨-,-,A1,k1,rfl,hF1⟩ | ⟨h,-⟩
 case inr=>exact absurd (by decide) h
 rw [show (1 : Int).toNat = 1 from rfl,Zrk] at hF1;replace hF1 : FL w1 A1 3 k1 [1 / 4,1 / 2,1 / 4]:=hF1;replace hF1:=Zb hF1;rw [show 2 * (1 : Int).toNat + 1 = 3 from rfl];go_wp2_with fail;refine (Zqu w1).mono ?_;rintro e w3 ⟨va,rfl,hba,La,hOa⟩;replace hF1:=Zb (hF1.out.below hba);have hB4:=Zb (hB2.out.trans (hba.mono hB2.out.size));clear hB2;clear hba;obtain ⟨Aa,ka,rfl,hMa⟩:=hOa.mflA;rw [Zhl] at hMa ⊢;obtain ⟨rsa,hXa,hqa,hsa⟩:=hMa.mxs;have hcapa:=hXa.2.2.1;unfold maxLen at hcapa;have hc6a:=hXa.2.1;have hCa:=Zb (FacC.of hXa (Zg6 hsa) (fun _=>by decide));have hfa:=Zb ((Zg6 hsa).mono (show 1 <= 3 by decide));have hEa:=Zb (Zk8 hqa hsa);have hDa : Hid (dirE rsa 0 = 0):=Zb (Zhm hsa (by decide));clear hOa hMa La hqa hsa;replace hXa:=Zb hXa;go_wp2_with fail;refine (Zdo Aa 6 ka rsa 0 w3 hXa.out hCa.out (by decide) (by decide)).mono ?_;rintro e w5 ⟨hb2,hd2⟩;replace hF1:=Zb (hF1.out.below hb2);replace hXa:=Zb (hXa.out.below hb2);have hB6:=Zb (hB4.out.trans (hb2.mono hB4.out.size));clear hB4;clear hb2
 rcases hd2 with ⟨-,A2,k2,rfl,hF2⟩ | ⟨h,-⟩
 case inr=>exact absurd hDa.out h
 rw [hEa.out.2.2] at hF2;have hcap2:=hF2.cap;unfold maxLen at hcap2;clear hCa hfa hEa hDa hcapa hc6a;clear hXa;replace hF2:=Zb hF2;go_wp2_with fail;refine (Zie w5).mono ?_;rintro e w7 ⟨rfl,hbr⟩;replace hF1:=Zb (hF1.out.below hbr);replace hF2:=Zb (hF2.out.below hbr);have hB8:=Zb (hB6.out.trans (hbr.mono hB6.out.size));clear hB6;clear hbr;go_wp2_with fail;refine (Zqu w7).mono ?_;rintro e w9 ⟨vb,rfl,hbb,Lb,hOb⟩;replace hF1:=Zb (hF1.out.below hbb);replace hF2:=Zb (hF2.out.below hbb);have hB10:=Zb (hB8.out.trans (hbb.mono hB8.out.size));clear hB8;clear hbb;obtain ⟨Ab,kb,rfl,hMb⟩:=hOb.mflA;rw [Zhl] at hMb ⊢;obtain ⟨rsb,hXb,hqb,hsb⟩:=hMb.mxs;have hcapb:=hXb.2.2.1;unfold maxLen at hcapb;have hc6b:=hXb.2.1;have hCb:=Zb (FacC.of hXb (Zg6 hsb) (fun _=>by decide));have hfb:=Zb ((Zg6 hsb).mono (show 1 <= 3 by decide));have hEb:=Zb (Zk8 hqb hsb);have hDb : Hid (dirE rsb 0 = 0):=Zb (Zhm hsb (by decide));clear hOb hMb Lb hqb hsb;replace hXb:=Zb hXb;go_wp2_with fail;refine (Zs7 Zcn Ab 6 kb rsb 0 4 1 w9 hXb.out hCb.out hfb.out (by decide) (by decide) (by decide) (by decide) (by decide) (by decide)).mono ?_;rintro e w11 ⟨hb3,hl3⟩;replace hF1:=Zb (hF1.out.below hb3);replace hF2:=Zb (hF2.out.below hb3);replace hXb:=Zb (hXb.out.below hb3);have hB12:=Zb (hB10.out.trans (hb3.mono hB10.out.size));clear hB10;clear hb3
 rcases hl3 with ⟨-,A3,k3,rfl,hL3⟩ | ⟨h,-⟩
 case inr=>exact absurd hEb.out.1 h
 rw [hEb.out.2.1] at hL3;replace hL3 : SL w11 A3 3 k3 [Zli,Zcn,Zlb]:=hL3;rw [show 2 * (1 : Int).toNat + 1 = 3 from rfl];have hcap3:=hL3.2.2.1;unfold maxLen at hcap3;clear hCb hfb hEb hDb hcapb hc6b;clear hXb;replace hL3:=Zb hL3;go_wp2_with fail;refine (Zbs 1 1 w11 (by decide) (by decide) (by decide) (by decide)).mono ?_;rintro e w13 ⟨hbp1,p1n,p1A,p1k,p1c,p1m,p1B,p1j,p1d,rfl,p1f⟩;replace hF1:=Zb (hF1.out.below hbp1);replace hF2:=Zb (hF2.out.below hbp1);replace hL3:=Zb (hL3.out.below hbp1);have hB14:=Zb (hB12.out.trans (hbp1.mono hB12.out.size));clear hB12;clear hbp1;rw [one_four.2.2.1] at p1f;replace p1f:=Zb p1f;go_wp2_with fail;refine (Zbs 1 4 w13 (by decide) (by decide) (by decide) (by decide)).mono ?_;rintro e w15 ⟨hbp2,p2n,p2A,p2k,p2c,p2m,p2B,p2j,p2d,rfl,p2f⟩;replace hF1:=Zb (hF1.out.below hbp2);replace hF2:=Zb (hF2.out.below hbp2);replace hL3:=Zb (hL3.out.below hbp2);replace p1f:=Zb (p1f.out.below hbp2);have hB16:=Zb (hB14.out.trans (hbp2.mono hB14.out.size));clear hB14;clear hbp2;rw [one_four.1] at p2f;replace p2f:=Zb p2f;go_wp2_with fail;refine (Zbs 0 1 w15 (by decide) (by decide) (by decide) (by decide)).mono ?_;rintro e w17 ⟨hbp3,p3n,p3A,p3k,p3c,p3m,p3B,p3j,p3d,rfl,p3f⟩;replace hF1:=Zb (hF1.out.below hbp3);replace hF2:=Zb (hF2.out.below hbp3);replace hL3:=Zb (hL3.out.below hbp3);replace p1f:=Zb (p1f.out.below hbp3);replace p2f:=Zb (p2f.out.below hbp3);have hB18:=Zb (hB16.out.trans (hbp3.mono hB16.out.size));clear hB16;clear hbp3;rw [one_four.2.2.2] at p3f
 replace p3f:=Zb p3f;go_wp2_with fail;refine (Zbs 0 1 w17 (by decide) (by decide) (by decide) (by decide)).mono ?_;rintro e w19 ⟨hbp4,p4n,p4A,p4k,p4c,p4m,p4B,p4j,p4d,rfl,p4f⟩;replace hF1:=Zb (hF1.out.below hbp4);replace hF2:=Zb (hF2.out.below hbp4);replace hL3:=Zb (hL3.out.below hbp4);replace p1f:=Zb (p1f.out.below hbp4);replace p2f:=Zb (p2f.out.below hbp4);replace p3f:=Zb (p3f.out.below hbp4);have hB20:=Zb (hB18.out.trans (hbp4.mono hB18.out.size));clear hB18;clear hbp4;rw [one_four.2.2.2] at p4f;replace p4f:=Zb p4f;go_wp2_with fail;refine (Zbs 0 1 w19 (by decide) (by decide) (by decide) (by decide)).mono ?_;rintro e w21 ⟨hbp5,p5n,p5A,p5k,p5c,p5m,p5B,p5j,p5d,rfl,p5f⟩;replace hF1:=Zb (hF1.out.below hbp5);replace hF2:=Zb (hF2.out.below hbp5);replace hL3:=Zb (hL3.out.below hbp5);replace p1f:=Zb (p1f.out.below hbp5);replace p2f:=Zb (p2f.out.below hbp5);replace p3f:=Zb (p3f.out.below hbp5);replace p4f:=Zb (p4f.out.below hbp5);have hB22:=Zb (hB20.out.trans (hbp5.mono hB20.out.size));clear hB20;clear hbp5;rw [one_four.2.2.2] at p5f;replace p5f:=Zb p5f;go_wp2_with fail;refine (Zbs 0 1 w21 (by decide) (by decide) (by decide) (by decide)).mono ?_;rintro e w23 ⟨hbp6,p6n,p6A,p6k,p6c,p6m,p6B,p6j,p6d,rfl,p6f⟩;replace hF1:=Zb (hF1.out.below hbp6);replace hF2:=Zb (hF2.out.below hbp6);replace hL3:=Zb (hL3.out.below hbp6);replace p1f:=Zb (p1f.out.below hbp6);replace p2f:=Zb (p2f.out.below hbp6);replace p3f:=Zb (p3f.out.below hbp6);replace p4f:=Zb (p4f.out.below hbp6)
 replace p5f:=Zb (p5f.out.below hbp6);have hB24:=Zb (hB22.out.trans (hbp6.mono hB22.out.size));clear hB22;clear hbp6;rw [one_four.2.2.2] at p6f;replace p6f:=Zb p6f;obtain ⟨g25,hg26⟩ : ∃ g,w23.heap.size = g:=⟨_,rfl⟩;obtain ⟨V27,hV28,q29,hb30⟩:=Za6 (w:=w23) 29 #[.bool p1n,.slice p1A p1k p1c,.bool p1m,.slice p1B p1j p1d,.bool p2n,.slice p2A p2k p2c,.bool p2m,.slice p2B p2j p2d,.bool p3n,.slice p3A p3k p3c,.bool p3m,.slice p3B p3j p3d,.bool p4n,.slice p4A p4k p4c,.bool p4m,.slice p4B p4j p4d,.bool p5n,.slice p5A p5k p5c,.bool p5m,.slice p5B p5j p5d,.bool p6n,.slice p6A p6k p6c,.bool p6m,.slice p6B p6j p6d];rw [hg26] at q29;replace hF1:=Zb (hF1.out.below hb30);replace hF2:=Zb (hF2.out.below hb30);replace hL3:=Zb (hL3.out.below hb30);replace p1f:=Zb (p1f.out.below hb30);replace p2f:=Zb (p2f.out.below hb30);replace p3f:=Zb (p3f.out.below hb30);replace p4f:=Zb (p4f.out.below hb30);replace p5f:=Zb (p5f.out.below hb30);replace p6f:=Zb (p6f.out.below hb30);have hB31:=Zb (hB24.out.trans (hb30.mono hB24.out.size));clear hB24;clear hb30;replace q29:=Zb q29
 have hF7 : FL V27 (some ⟨g25,0,none⟩) 6 6 Zda:=FL.made (es:=[⟨p1n,p1A,p1k,p1c,p1m,p1B,p1j,p1d,1⟩,⟨p2n,p2A,p2k,p2c,p2m,p2B,p2j,p2d,1 / 4⟩,⟨p3n,p3A,p3k,p3c,p3m,p3B,p3j,p3d,0⟩,⟨p4n,p4A,p4k,p4c,p4m,p4B,p4j,p4d,0⟩,⟨p5n,p5A,p5k,p5c,p5m,p5B,p5j,p5d,0⟩,⟨p6n,p6A,p6k,p6c,p6m,p6B,p6j,p6d,0⟩]) q29.out (fun e he=>by
  simp only [List.mem_cons,List.not_mem_nil,or_false] at he
  rcases he with rfl | rfl | rfl | rfl | rfl | rfl
  ·exact p1f.out
  ·exact p2f.out
  ·exact p3f.out
  ·exact p4f.out
  ·exact p5f.out
  ·exact p6f.out) (by simp)
 clear q29 p1f p2f p3f p4f p5f p6f;replace hF7:=Zb hF7;go_wp2_with fail;(try rw [hg26]);(try rw [hV28]);clear hV28;replace hg26:=Zb hg26;refine (Zie V27).mono ?_;rintro e w32 ⟨rfl,hbr⟩;replace hF1:=Zb (hF1.out.below hbr);replace hF2:=Zb (hF2.out.below hbr);replace hL3:=Zb (hL3.out.below hbr);replace hF7:=Zb (hF7.out.below hbr);have hB33:=Zb (hB31.out.trans (hbr.mono hB31.out.size));clear hB31;clear hbr;go_wp2_with fail;refine (Zie w32).mono ?_;rintro e w34 ⟨rfl,hbr⟩;replace hF1:=Zb (hF1.out.below hbr);replace hF2:=Zb (hF2.out.below hbr);replace hL3:=Zb (hL3.out.below hbr);replace hF7:=Zb (hF7.out.below hbr);have hB35:=Zb (hB33.out.trans (hbr.mono hB33.out.size));clear hB33;clear hbr;obtain ⟨g8,hg8⟩ : ∃ g,w34.heap.size = g:=⟨_,rfl⟩;obtain ⟨V8,hV8,q8,hb8⟩:=Za6 (w:=w34) 46 #[.int .i64 0,.int .i64 1099511627772,.int .i64 (-1),.int .i64 0,.int .i64 0,.int .i64 0,.int .i64 0];rw [hg8] at q8;obtain ⟨V9,hV9,q9,hb9⟩:=Za6 (w:=V8) 46 #[.int .i64 0,.int .i64 1099511627780,.int .i64 1,.int .i64 0,.int .i64 0,.int .i64 0,.int .i64 0];rw [show V8.heap.size = g8 + 1 by rw [<- hV8,<- hg8];simp] at q9;replace hF1:=Zb (hF1.out.below hb8);replace hF2:=Zb (hF2.out.below hb8);replace hL3:=Zb (hL3.out.below hb8);replace hF7:=Zb (hF7.out.below hb8);have hB36:=Zb (hB35.out.trans (hb8.mono hB35.out.size));clear hB35;replace q8:=Zb q8;replace hF1:=Zb (hF1.out.below hb9);replace hF2:=Zb (hF2.out.below hb9);replace hL3:=Zb (hL3.out.below hb9);replace hF7:=Zb (hF7.out.below hb9)
 replace q8:=Zb (Zc hb9 q8.out);have hB37:=Zb (hB36.out.trans (hb9.mono hB36.out.size));clear hB36;replace q9:=Zb q9;clear hb8 hb9;replace hg8:=Zb hg8;replace hV8:=Zb hV8;replace hV9:=Zb hV9;go_wp2_with fail;rw [hV8.out,hg8.out,hV9.out];clear hV8 hV9;have cc38 : V9.cell? ⟨g8,0,none⟩ = some (.int .i64 0):=q8.out.cell 0;have cc39 : V9.cell? ⟨g8,1,none⟩ = some (.int .i64 1099511627772):=q8.out.cell 1;have cc40 : V9.cell? ⟨g8,2,none⟩ = some (.int .i64 (-1)):=q8.out.cell 2;have cc41 : V9.cell? ⟨g8,3,none⟩ = some (.int .i64 0):=q8.out.cell 3;have cc42 : V9.cell? ⟨g8,4,none⟩ = some (.int .i64 0):=q8.out.cell 4;have cc43 : V9.cell? ⟨g8,5,none⟩ = some (.int .i64 0):=q8.out.cell 5;have cc44 : V9.cell? ⟨g8,6,none⟩ = some (.int .i64 0):=q8.out.cell 6;have cc45 : V9.cell? ⟨g8 + 1,0,none⟩ = some (.int .i64 0):=q9.out.cell 0;have cc46 : V9.cell? ⟨g8 + 1,1,none⟩ = some (.int .i64 1099511627780):=q9.out.cell 1;have cc47 : V9.cell? ⟨g8 + 1,2,none⟩ = some (.int .i64 1):=q9.out.cell 2;have cc48 : V9.cell? ⟨g8 + 1,3,none⟩ = some (.int .i64 0):=q9.out.cell 3;have cc49 : V9.cell? ⟨g8 + 1,4,none⟩ = some (.int .i64 0):=q9.out.cell 4;have cc50 : V9.cell? ⟨g8 + 1,5,none⟩ = some (.int .i64 0):=q9.out.cell 5;have cc51 : V9.cell? ⟨g8 + 1,6,none⟩ = some (.int .i64 0):=q9.out.cell 6;have hr52 : Below V9.heap.size V9 V9.drew:=Zj (Below.refl _ _) 1;replace hF1:=Zb (hF1.out.below hr52);replace hF2:=Zb (hF2.out.below hr52);replace hL3:=Zb (hL3.out.below hr52);replace hF7:=Zb (hF7.out.below hr52)
 replace q8:=Zb (Zc hr52 q8.out);replace q9:=Zb (Zc hr52 q9.out);have hB53:=Zb (hB37.out.trans (hr52.mono hB37.out.size));clear hB37;replace cc38:=Za hr52 cc38;replace cc39:=Za hr52 cc39;replace cc40:=Za hr52 cc40;replace cc41:=Za hr52 cc41;replace cc42:=Za hr52 cc42;replace cc43:=Za hr52 cc43;replace cc44:=Za hr52 cc44;replace cc45:=Za hr52 cc45;replace cc46:=Za hr52 cc46;replace cc47:=Za hr52 cc47;replace cc48:=Za hr52 cc48;replace cc49:=Za hr52 cc49;replace cc50:=Za hr52 cc50;replace cc51:=Za hr52 cc51;clear hr52;refine Z4 [] (fun wx=>(wx.cell? ⟨g8,0,none⟩ = some (.int .i64 0)) /\ (wx.cell? ⟨g8,1,none⟩ = some (.int .i64 1099511627772)) /\ (wx.cell? ⟨g8,2,none⟩ = some (.int .i64 (-1))) /\ (wx.cell? ⟨g8,3,none⟩ = some (.int .i64 0)) /\ (wx.cell? ⟨g8,4,none⟩ = some (.int .i64 0)) /\ (wx.cell? ⟨g8,5,none⟩ = some (.int .i64 0)) /\ (wx.cell? ⟨g8,6,none⟩ = some (.int .i64 0)) /\ (wx.cell? ⟨g8 + 1,0,none⟩ = some (.int .i64 0)) /\ (wx.cell? ⟨g8 + 1,1,none⟩ = some (.int .i64 1099511627780)) /\ (wx.cell? ⟨g8 + 1,2,none⟩ = some (.int .i64 1)) /\ (wx.cell? ⟨g8 + 1,3,none⟩ = some (.int .i64 0)) /\ (wx.cell? ⟨g8 + 1,4,none⟩ = some (.int .i64 0)) /\ (wx.cell? ⟨g8 + 1,5,none⟩ = some (.int .i64 0)) /\ (wx.cell? ⟨g8 + 1,6,none⟩ = some (.int .i64 0))) hmx ⟨cc38,cc39,cc40,cc41,cc42,cc43,cc44,cc45,cc46,cc47,cc48,cc49,cc50,cc51⟩ (fun _=>?_)
 refine Zd (i:=0) (v:=?vt1) rfl (by kernel_rfl) (by kernel_rfl) (by kernel_rfl) (by kernel_rfl) (by kernel_rfl) (Or.inl ⟨by kernel_rfl,?hyt1⟩) ⟨cc38,cc39,cc40,cc41,cc42,cc43,cc44,cc45,cc46,cc47,cc48,cc49,cc50,cc51⟩ ?rt1
 case hyt1=>(intro W2 hSw;(try dsimp only at hSw);go_simp;try with_reducible rfl)
 try simp only [Act.put,putL_a,putL_z,putL_s,putG_a,putG_s,putG_z]
 refine Zd (i:=1) (v:=?vt2) rfl (by kernel_rfl) (by kernel_rfl) (by kernel_rfl) (by kernel_rfl) (by kernel_rfl) (Or.inl ⟨by kernel_rfl,?hyt2⟩) ⟨cc38,cc39,cc40,cc41,cc42,cc43,cc44,cc45,cc46,cc47,cc48,cc49,cc50,cc51⟩ ?rt2
 case hyt2=>(intro W2 hSw;(try dsimp only at hSw);go_simp;try with_reducible rfl)
 try simp only [Act.put,putL_a,putL_z,putL_s,putG_a,putG_s,putG_z]
 refine Zd (i:=2) (v:=?vt3) rfl (by kernel_rfl) (by kernel_rfl) (by kernel_rfl) (by kernel_rfl) (by kernel_rfl) (Or.inl ⟨by kernel_rfl,?hyt3⟩) ⟨cc38,cc39,cc40,cc41,cc42,cc43,cc44,cc45,cc46,cc47,cc48,cc49,cc50,cc51⟩ ?rt3
 case hyt3=>(intro W2 hSw;(try dsimp only at hSw);go_simp;try with_reducible rfl)
 try simp only [Act.put,putL_a,putL_z,putL_s,putG_a,putG_s,putG_z]
 refine Zd (i:=3) (v:=?vt4) rfl (by kernel_rfl) (by kernel_rfl) (by kernel_rfl) (by kernel_rfl) (by kernel_rfl) (Or.inl ⟨by kernel_rfl,?hyt4⟩) ⟨cc38,cc39,cc40,cc41,cc42,cc43,cc44,cc45,cc46,cc47,cc48,cc49,cc50,cc51⟩ ?rt4
 case hyt4=>(intro W2 hSw;(try dsimp only at hSw);go_simp;try with_reducible rfl)
 try simp only [Act.put,putL_a,putL_z,putL_s,putG_a,putG_s,putG_z]
 refine Ze (i:=4) rfl (by kernel_rfl) (fun K hK=>?_);(try rw [if_pos (by kernel_rfl)]);go_simp;refine (Zbs 1 4 V9.drew (by decide) (by decide) (by decide) (by decide)).mono ?_;rintro e w54 ⟨hbr1,r1n,r1A,r1k,r1c,r1m,r1B,r1j,r1d,rfl,r1f⟩;replace hF1:=Zb (hF1.out.below hbr1);replace hF2:=Zb (hF2.out.below hbr1);replace hL3:=Zb (hL3.out.below hbr1);replace hF7:=Zb (hF7.out.below hbr1);replace q8:=Zb (Zc hbr1 q8.out);replace q9:=Zb (Zc hbr1 q9.out);have hB55:=Zb (hB53.out.trans (hbr1.mono hB53.out.size));clear hB53;replace cc38:=Za hbr1 cc38;replace cc39:=Za hbr1 cc39;replace cc40:=Za hbr1 cc40;replace cc41:=Za hbr1 cc41;replace cc42:=Za hbr1 cc42;replace cc43:=Za hbr1 cc43;replace cc44:=Za hbr1 cc44;replace cc45:=Za hbr1 cc45;replace cc46:=Za hbr1 cc46;replace cc47:=Za hbr1 cc47;replace cc48:=Za hbr1 cc48;replace cc49:=Za hbr1 cc49;replace cc50:=Za hbr1 cc50;replace cc51:=Za hbr1 cc51;clear hbr1;rw [one_four.1] at r1f;replace r1f:=Zb r1f;refine hK.out _ _ (fun _=>⟨cc38,cc39,cc40,cc41,cc42,cc43,cc44,cc45,cc46,cc47,cc48,cc49,cc50,cc51⟩) ?_;clear hK K
 try simp only [Act.put,putL_a,putL_z,putL_s,putG_a,putG_s,putG_z]
 refine Ze (i:=5) rfl (by kernel_rfl) (fun K hK=>?_);(try rw [if_pos (by kernel_rfl)]);go_simp;refine (Zbs 1 2 w54 (by decide) (by decide) (by decide) (by decide)).mono ?_;rintro e w56 ⟨hbr2,r2n,r2A,r2k,r2c,r2m,r2B,r2j,r2d,rfl,r2f⟩;replace hF1:=Zb (hF1.out.below hbr2);replace hF2:=Zb (hF2.out.below hbr2);replace hL3:=Zb (hL3.out.below hbr2);replace hF7:=Zb (hF7.out.below hbr2);replace q8:=Zb (Zc hbr2 q8.out);replace q9:=Zb (Zc hbr2 q9.out);replace r1f:=Zb (r1f.out.below hbr2);have hB57:=Zb (hB55.out.trans (hbr2.mono hB55.out.size));clear hB55;replace cc38:=Za hbr2 cc38;replace cc39:=Za hbr2 cc39;replace cc40:=Za hbr2 cc40;replace cc41:=Za hbr2 cc41;replace cc42:=Za hbr2 cc42;replace cc43:=Za hbr2 cc43;replace cc44:=Za hbr2 cc44;replace cc45:=Za hbr2 cc45;replace cc46:=Za hbr2 cc46;replace cc47:=Za hbr2 cc47;replace cc48:=Za hbr2 cc48;replace cc49:=Za hbr2 cc49;replace cc50:=Za hbr2 cc50;replace cc51:=Za hbr2 cc51;clear hbr2;rw [one_four.2.1] at r2f;replace r2f:=Zb r2f;refine hK.out _ _ (fun _=>⟨cc38,cc39,cc40,cc41,cc42,cc43,cc44,cc45,cc46,cc47,cc48,cc49,cc50,cc51⟩) ?_;clear hK K
 try simp only [Act.put,putL_a,putL_z,putL_s,putG_a,putG_s,putG_z]
 refine Ze (i:=6) rfl (by kernel_rfl) (fun K hK=>?_);(try rw [if_pos (by kernel_rfl)]);go_simp;refine (Zbs 1 4 w56 (by decide) (by decide) (by decide) (by decide)).mono ?_;rintro e w58 ⟨hbr3,r3n,r3A,r3k,r3c,r3m,r3B,r3j,r3d,rfl,r3f⟩;replace hF1:=Zb (hF1.out.below hbr3);replace hF2:=Zb (hF2.out.below hbr3);replace hL3:=Zb (hL3.out.below hbr3);replace hF7:=Zb (hF7.out.below hbr3);replace q8:=Zb (Zc hbr3 q8.out);replace q9:=Zb (Zc hbr3 q9.out);replace r1f:=Zb (r1f.out.below hbr3);replace r2f:=Zb (r2f.out.below hbr3);have hB59:=Zb (hB57.out.trans (hbr3.mono hB57.out.size));clear hB57;replace cc38:=Za hbr3 cc38;replace cc39:=Za hbr3 cc39;replace cc40:=Za hbr3 cc40;replace cc41:=Za hbr3 cc41;replace cc42:=Za hbr3 cc42;replace cc43:=Za hbr3 cc43;replace cc44:=Za hbr3 cc44;replace cc45:=Za hbr3 cc45;replace cc46:=Za hbr3 cc46;replace cc47:=Za hbr3 cc47;replace cc48:=Za hbr3 cc48;replace cc49:=Za hbr3 cc49;replace cc50:=Za hbr3 cc50;replace cc51:=Za hbr3 cc51;clear hbr3;rw [one_four.1] at r3f;replace r3f:=Zb r3f;refine hK.out _ _ (fun _=>⟨cc38,cc39,cc40,cc41,cc42,cc43,cc44,cc45,cc46,cc47,cc48,cc49,cc50,cc51⟩) ?_;clear hK K
 try simp only [Act.put,putL_a,putL_z,putL_s,putG_a,putG_s,putG_z]
 obtain ⟨g60,hg61⟩ : ∃ g,w58.heap.size = g:=⟨_,rfl⟩;obtain ⟨V62,hV63,q64,hb65⟩:=Za6 (w:=w58) 29 #[.bool r1n,.slice r1A r1k r1c,.bool r1m,.slice r1B r1j r1d,.bool r2n,.slice r2A r2k r2c,.bool r2m,.slice r2B r2j r2d,.bool r3n,.slice r3A r3k r3c,.bool r3m,.slice r3B r3j r3d];rw [hg61] at q64;refine Ze (i:=7) rfl (by kernel_rfl) (fun K hK=>?_);(try rw [if_pos (by kernel_rfl)]);go_simp;(try rw [hg61]);(try rw [hV63]);clear hV63;replace hF1:=Zb (hF1.out.below hb65);replace hF2:=Zb (hF2.out.below hb65);replace hL3:=Zb (hL3.out.below hb65);replace hF7:=Zb (hF7.out.below hb65);replace q8:=Zb (Zc hb65 q8.out);replace q9:=Zb (Zc hb65 q9.out);replace r1f:=Zb (r1f.out.below hb65);replace r2f:=Zb (r2f.out.below hb65);replace r3f:=Zb (r3f.out.below hb65);have hB66:=Zb (hB59.out.trans (hb65.mono hB59.out.size));clear hB59;replace cc38:=Za hb65 cc38;replace cc39:=Za hb65 cc39;replace cc40:=Za hb65 cc40;replace cc41:=Za hb65 cc41;replace cc42:=Za hb65 cc42;replace cc43:=Za hb65 cc43;replace cc44:=Za hb65 cc44;replace cc45:=Za hb65 cc45;replace cc46:=Za hb65 cc46;replace cc47:=Za hb65 cc47;replace cc48:=Za hb65 cc48;replace cc49:=Za hb65 cc49;replace cc50:=Za hb65 cc50;replace cc51:=Za hb65 cc51;clear hb65;replace q64:=Zb q64;replace hg61:=Zb hg61;refine hK.out _ _ (fun _=>⟨cc38,cc39,cc40,cc41,cc42,cc43,cc44,cc45,cc46,cc47,cc48,cc49,cc50,cc51⟩) ?_;clear hK K
 try simp only [Act.put,putL_a,putL_z,putL_s,putG_a,putG_s,putG_z]
 have hFr : FL V62 (some ⟨g60,0,none⟩) 3 3 [1 / 4,1 / 2,1 / 4]:=FL.made (es:=[⟨r1n,r1A,r1k,r1c,r1m,r1B,r1j,r1d,1 / 4⟩,⟨r2n,r2A,r2k,r2c,r2m,r2B,r2j,r2d,1 / 2⟩,⟨r3n,r3A,r3k,r3c,r3m,r3B,r3j,r3d,1 / 4⟩]) q64.out (fun e he=>by
  simp only [List.mem_cons,List.not_mem_nil,or_false] at he
  rcases he with rfl | rfl | rfl
  ·exact r1f.out
  ·exact r2f.out
  ·exact r3f.out) (by simp)
 clear q64 r1f r2f r3f;replace hFr:=Zb hFr;refine Ze (i:=8) rfl (by kernel_rfl) (fun K hK=>?_);(try rw [if_pos (by kernel_rfl)]);go_simp;refine (Zgp A1 (some ⟨g60,0,none⟩) 3 k1 3 _ V62 hF1.out.xl hFr.out.xl).mono ?_;rintro e w67 ⟨rfl,hbS⟩;replace hF1:=Zb (hF1.out.below hbS);replace hF2:=Zb (hF2.out.below hbS);replace hL3:=Zb (hL3.out.below hbS);replace hF7:=Zb (hF7.out.below hbS);replace q8:=Zb (Zc hbS q8.out);replace q9:=Zb (Zc hbS q9.out);replace hFr:=Zb (hFr.out.below hbS);have hB68:=Zb (hB66.out.trans (hbS.mono hB66.out.size));clear hB66;replace cc38:=Za hbS cc38;replace cc39:=Za hbS cc39;replace cc40:=Za hbS cc40;replace cc41:=Za hbS cc41;replace cc42:=Za hbS cc42;replace cc43:=Za hbS cc43;replace cc44:=Za hbS cc44;replace cc45:=Za hbS cc45;replace cc46:=Za hbS cc46;replace cc47:=Za hbS cc47;replace cc48:=Za hbS cc48;replace cc49:=Za hbS cc49;replace cc50:=Za hbS cc50;replace cc51:=Za hbS cc51;clear hbS;refine hK.out _ _ (fun _=>⟨cc38,cc39,cc40,cc41,cc42,cc43,cc44,cc45,cc46,cc47,cc48,cc49,cc50,cc51⟩) ?_;clear hK K
 try simp only [Act.put,putL_a,putL_z,putL_s,putG_a,putG_s,putG_z]
 clear hF1 hFr;refine Zd (i:=9) (v:=?vt5) rfl (by kernel_rfl) (by kernel_rfl) (by kernel_rfl) (by kernel_rfl) (by kernel_rfl) (Or.inl ⟨by kernel_rfl,?hyt5⟩) ⟨cc38,cc39,cc40,cc41,cc42,cc43,cc44,cc45,cc46,cc47,cc48,cc49,cc50,cc51⟩ ?rt5
 case hyt5=>(intro W2 hSw;(try dsimp only at hSw);go_simp;try with_reducible rfl)
 try simp only [Act.put,putL_a,putL_z,putL_s,putG_a,putG_s,putG_z]
 refine Zd (i:=10) (v:=?vt6) rfl (by kernel_rfl) (by kernel_rfl) (by kernel_rfl) (by kernel_rfl) (by kernel_rfl) (Or.inl ⟨by kernel_rfl,?hyt6⟩) ⟨cc38,cc39,cc40,cc41,cc42,cc43,cc44,cc45,cc46,cc47,cc48,cc49,cc50,cc51⟩ ?rt6
 case hyt6=>(intro W2 hSw;(try dsimp only at hSw);go_simp;try with_reducible rfl)
 try simp only [Act.put,putL_a,putL_z,putL_s,putG_a,putG_s,putG_z]
 refine Zd (i:=11) (v:=?vt7) rfl (by kernel_rfl) (by kernel_rfl) (by kernel_rfl) (by kernel_rfl) (by kernel_rfl) (Or.inl ⟨by kernel_rfl,?hyt7⟩) ⟨cc38,cc39,cc40,cc41,cc42,cc43,cc44,cc45,cc46,cc47,cc48,cc49,cc50,cc51⟩ ?rt7
 case hyt7=>(intro W2 hSw;(try dsimp only at hSw);go_simp;try with_reducible rfl)
 try simp only [Act.put,putL_a,putL_z,putL_s,putG_a,putG_s,putG_z]
 refine Zd (i:=12) (v:=?vt8) rfl (by kernel_rfl) (by kernel_rfl) (by kernel_rfl) (by kernel_rfl) (by kernel_rfl) (Or.inl ⟨by kernel_rfl,?hyt8⟩) ⟨cc38,cc39,cc40,cc41,cc42,cc43,cc44,cc45,cc46,cc47,cc48,cc49,cc50,cc51⟩ ?rt8
 case hyt8=>(intro W2 hSw;(try dsimp only at hSw);go_simp;try with_reducible rfl)
 try simp only [Act.put,putL_a,putL_z,putL_s,putG_a,putG_s,putG_z]
 refine Zd (i:=13) (v:=?vt9) rfl (by kernel_rfl) (by kernel_rfl) (by kernel_rfl) (by kernel_rfl) (by kernel_rfl) (Or.inl ⟨by kernel_rfl,?hyt9⟩) ⟨cc38,cc39,cc40,cc41,cc42,cc43,cc44,cc45,cc46,cc47,cc48,cc49,cc50,cc51⟩ ?rt9
 case hyt9=>(intro W2 hSw;(try dsimp only at hSw);go_simp;try with_reducible rfl)
 try simp only [Act.put,putL_a,putL_z,putL_s,putG_a,putG_s,putG_z]
 refine Zd (i:=14) (v:=?vt10) rfl (by kernel_rfl) (by kernel_rfl) (by kernel_rfl) (by kernel_rfl) (by kernel_rfl) (Or.inl ⟨by kernel_rfl,?hyt10⟩) ⟨cc38,cc39,cc40,cc41,cc42,cc43,cc44,cc45,cc46,cc47,cc48,cc49,cc50,cc51⟩ ?rt10
 case hyt10=>(intro W2 hSw;(try dsimp only at hSw);go_simp;try with_reducible rfl)
 try simp only [Act.put,putL_a,putL_z,putL_s,putG_a,putG_s,putG_z]
 refine Zd (i:=15) (v:=?vt11) rfl (by kernel_rfl) (by kernel_rfl) (by kernel_rfl) (by kernel_rfl) (by kernel_rfl) (Or.inl ⟨by kernel_rfl,?hyt11⟩) ⟨cc38,cc39,cc40,cc41,cc42,cc43,cc44,cc45,cc46,cc47,cc48,cc49,cc50,cc51⟩ ?rt11
 case hyt11=>(intro W2 hSw;(try dsimp only at hSw);go_simp;try with_reducible rfl)
 try simp only [Act.put,putL_a,putL_z,putL_s,putG_a,putG_s,putG_z]
 refine Zd (i:=16) (v:=?vt12) rfl (by kernel_rfl) (by kernel_rfl) (by kernel_rfl) (by kernel_rfl) (by kernel_rfl) (Or.inl ⟨by kernel_rfl,?hyt12⟩) ⟨cc38,cc39,cc40,cc41,cc42,cc43,cc44,cc45,cc46,cc47,cc48,cc49,cc50,cc51⟩ ?rt12
 case hyt12=>(intro W2 hSw;(try dsimp only at hSw);go_simp;try with_reducible rfl)
 try simp only [Act.put,putL_a,putL_z,putL_s,putG_a,putG_s,putG_z]
 refine Ze (i:=17) rfl (by kernel_rfl) (fun K hK=>?_);(try rw [if_pos (by kernel_rfl)]);go_simp;refine (Zgp A2 (some ⟨g25,0,none⟩) 6 k2 6 _ w67 hF2.out.xl hF7.out.xl).mono ?_;rintro e w69 ⟨rfl,hbS⟩;replace hF2:=Zb (hF2.out.below hbS);replace hL3:=Zb (hL3.out.below hbS);replace hF7:=Zb (hF7.out.below hbS);replace q8:=Zb (Zc hbS q8.out);replace q9:=Zb (Zc hbS q9.out);have hB70:=Zb (hB68.out.trans (hbS.mono hB68.out.size));clear hB68;replace cc38:=Za hbS cc38;replace cc39:=Za hbS cc39;replace cc40:=Za hbS cc40;replace cc41:=Za hbS cc41;replace cc42:=Za hbS cc42;replace cc43:=Za hbS cc43;replace cc44:=Za hbS cc44;replace cc45:=Za hbS cc45;replace cc46:=Za hbS cc46;replace cc47:=Za hbS cc47;replace cc48:=Za hbS cc48;replace cc49:=Za hbS cc49;replace cc50:=Za hbS cc50;replace cc51:=Za hbS cc51;clear hbS;refine hK.out _ _ (fun _=>⟨cc38,cc39,cc40,cc41,cc42,cc43,cc44,cc45,cc46,cc47,cc48,cc49,cc50,cc51⟩) ?_;clear hK K
 try simp only [Act.put,putL_a,putL_z,putL_s,putG_a,putG_s,putG_z]
 clear hF2 hF7;refine Zd (i:=18) (v:=?vt13) rfl (by kernel_rfl) (by kernel_rfl) (by kernel_rfl) (by kernel_rfl) (by kernel_rfl) (Or.inl ⟨by kernel_rfl,?hyt13⟩) ⟨cc38,cc39,cc40,cc41,cc42,cc43,cc44,cc45,cc46,cc47,cc48,cc49,cc50,cc51⟩ ?rt13
 case hyt13=>(intro W2 hSw;(try dsimp only at hSw);go_simp;try with_reducible rfl)
 try simp only [Act.put,putL_a,putL_z,putL_s,putG_a,putG_s,putG_z]
 refine Zd (i:=19) (v:=?vt14) rfl (by kernel_rfl) (by kernel_rfl) (by kernel_rfl) (by kernel_rfl) (by kernel_rfl) (Or.inl ⟨by kernel_rfl,?hyt14⟩) ⟨cc38,cc39,cc40,cc41,cc42,cc43,cc44,cc45,cc46,cc47,cc48,cc49,cc50,cc51⟩ ?rt14
 case hyt14=>(intro W2 hSw;(try dsimp only at hSw);go_simp;try with_reducible rfl)
 try simp only [Act.put,putL_a,putL_z,putL_s,putG_a,putG_s,putG_z]
 refine Zd (i:=20) (v:=?vt15) rfl (by kernel_rfl) (by kernel_rfl) (by kernel_rfl) (by kernel_rfl) (by kernel_rfl) (Or.inl ⟨by kernel_rfl,?hyt15⟩) ⟨cc38,cc39,cc40,cc41,cc42,cc43,cc44,cc45,cc46,cc47,cc48,cc49,cc50,cc51⟩ ?rt15
 case hyt15=>(intro W2 hSw;(try dsimp only at hSw);go_simp;try with_reducible rfl)
 try simp only [Act.put,putL_a,putL_z,putL_s,putG_a,putG_s,putG_z]
 refine Zd (i:=21) (v:=?vt16) rfl (by kernel_rfl) (by kernel_rfl) (by kernel_rfl) (by kernel_rfl) (by kernel_rfl) (Or.inl ⟨by kernel_rfl,?hyt16⟩) ⟨cc38,cc39,cc40,cc41,cc42,cc43,cc44,cc45,cc46,cc47,cc48,cc49,cc50,cc51⟩ ?rt16
 case hyt16=>(intro W2 hSw;(try dsimp only at hSw);go_simp;try with_reducible rfl)
 try simp only [Act.put,putL_a,putL_z,putL_s,putG_a,putG_s,putG_z]
 refine Zd (i:=22) (v:=?vt17) rfl (by kernel_rfl) (by kernel_rfl) (by kernel_rfl) (by kernel_rfl) (by kernel_rfl) (Or.inl ⟨by kernel_rfl,?hyt17⟩) ⟨cc38,cc39,cc40,cc41,cc42,cc43,cc44,cc45,cc46,cc47,cc48,cc49,cc50,cc51⟩ ?rt17
 case hyt17=>(intro W2 hSw;(try dsimp only at hSw);go_simp;try with_reducible rfl)
 try simp only [Act.put,putL_a,putL_z,putL_s,putG_a,putG_s,putG_z]
 refine Zd (i:=23) (v:=?vt18) rfl (by kernel_rfl) (by kernel_rfl) (by kernel_rfl) (by kernel_rfl) (by kernel_rfl) (Or.inl ⟨by kernel_rfl,?hyt18⟩) ⟨cc38,cc39,cc40,cc41,cc42,cc43,cc44,cc45,cc46,cc47,cc48,cc49,cc50,cc51⟩ ?rt18
 case hyt18=>(intro W2 hSw;(try dsimp only at hSw);go_simp;try with_reducible rfl)
 try simp only [Act.put,putL_a,putL_z,putL_s,putG_a,putG_s,putG_z]
 refine Zd (i:=24) (v:=?vt19) rfl (by kernel_rfl) (by kernel_rfl) (by kernel_rfl) (by kernel_rfl) (by kernel_rfl) (Or.inl ⟨by kernel_rfl,?hyt19⟩) ⟨cc38,cc39,cc40,cc41,cc42,cc43,cc44,cc45,cc46,cc47,cc48,cc49,cc50,cc51⟩ ?rt19
 case hyt19=>(intro W2 hSw;(try dsimp only at hSw);go_simp;try with_reducible rfl)
 try simp only [Act.put,putL_a,putL_z,putL_s,putG_a,putG_s,putG_z]
 refine Zd (i:=25) (v:=?vt20) rfl (by kernel_rfl) (by kernel_rfl) (by kernel_rfl) (by kernel_rfl) (by kernel_rfl) (Or.inl ⟨by kernel_rfl,?hyt20⟩) ⟨cc38,cc39,cc40,cc41,cc42,cc43,cc44,cc45,cc46,cc47,cc48,cc49,cc50,cc51⟩ ?rt20
 case hyt20=>(intro W2 hSw;(try dsimp only at hSw);go_simp;try with_reducible rfl)
 try simp only [Act.put,putL_a,putL_z,putL_s,putG_a,putG_s,putG_z]
 refine Zd (i:=27) (v:=?vt21) rfl (by kernel_rfl) (by kernel_rfl) (by kernel_rfl) (by kernel_rfl) (by kernel_rfl) (Or.inl ⟨by kernel_rfl,?hyt21⟩) ⟨cc38,cc39,cc40,cc41,cc42,cc43,cc44,cc45,cc46,cc47,cc48,cc49,cc50,cc51⟩ ?rt21
 case hyt21=>(intro W2 hSw;(try dsimp only at hSw);go_simp;try with_reducible rfl)
 try simp only [Act.put,putL_a,putL_z,putL_s,putG_a,putG_s,putG_z]
 refine Ze (i:=26) rfl (by kernel_rfl) (fun K hK=>?_);(try rw [if_pos (by kernel_rfl)]);go_simp;refine (Zie w69).mono ?_;rintro e w71 ⟨rfl,hbr⟩;replace hL3:=Zb (hL3.out.below hbr);replace q8:=Zb (Zc hbr q8.out);replace q9:=Zb (Zc hbr q9.out);have hB72:=Zb (hB70.out.trans (hbr.mono hB70.out.size));clear hB70;replace cc38:=Za hbr cc38;replace cc39:=Za hbr cc39;replace cc40:=Za hbr cc40;replace cc41:=Za hbr cc41;replace cc42:=Za hbr cc42;replace cc43:=Za hbr cc43;replace cc44:=Za hbr cc44;replace cc45:=Za hbr cc45;replace cc46:=Za hbr cc46;replace cc47:=Za hbr cc47;replace cc48:=Za hbr cc48;replace cc49:=Za hbr cc49;replace cc50:=Za hbr cc50;replace cc51:=Za hbr cc51;clear hbr;refine hK.out _ _ (fun _=>⟨cc38,cc39,cc40,cc41,cc42,cc43,cc44,cc45,cc46,cc47,cc48,cc49,cc50,cc51⟩) ?_;clear hK K
 try simp only [Act.put,putL_a,putL_z,putL_s,putG_a,putG_s,putG_z]
 obtain ⟨g73,hg74⟩ : ∃ g,w71.heap.size = g:=⟨_,rfl⟩;obtain ⟨V75,hV76,q77,hb78⟩:=Za6 (w:=w71) 46 #[.int .i64 0,.int .i64 1099511627772,.int .i64 (-1),.int .i64 0,.int .i64 0,.int .i64 0,.int .i64 0,.int .i64 0,.int .i64 1099511627776,.int .i64 0,.int .i64 0,.int .i64 0,.int .i64 0,.int .i64 0,.int .i64 0,.int .i64 1099511627780,.int .i64 1,.int .i64 0,.int .i64 0,.int .i64 0,.int .i64 0];rw [hg74] at q77;refine Ze (i:=28) rfl (by kernel_rfl) (fun K hK=>?_);(try rw [if_pos (by kernel_rfl)]);go_simp;(try rw [hg74]);(try rw [hV76]);clear hV76;replace hL3:=Zb (hL3.out.below hb78);replace q8:=Zb (Zc hb78 q8.out);replace q9:=Zb (Zc hb78 q9.out);have hB79:=Zb (hB72.out.trans (hb78.mono hB72.out.size));clear hB72;replace cc38:=Za hb78 cc38;replace cc39:=Za hb78 cc39;replace cc40:=Za hb78 cc40;replace cc41:=Za hb78 cc41;replace cc42:=Za hb78 cc42;replace cc43:=Za hb78 cc43;replace cc44:=Za hb78 cc44;replace cc45:=Za hb78 cc45;replace cc46:=Za hb78 cc46;replace cc47:=Za hb78 cc47;replace cc48:=Za hb78 cc48;replace cc49:=Za hb78 cc49;replace cc50:=Za hb78 cc50;replace cc51:=Za hb78 cc51;clear hb78;replace q77:=Zb q77;replace hg74:=Zb hg74;refine hK.out _ _ (fun _=>⟨cc38,cc39,cc40,cc41,cc42,cc43,cc44,cc45,cc46,cc47,cc48,cc49,cc50,cc51⟩) ?_;clear hK K
 try simp only [Act.put,putL_a,putL_z,putL_s,putG_a,putG_s,putG_z]
 have hSs : SL V75 (some ⟨g73,0,none⟩) 3 3 [Zli,Zcn,Zlb]:=SL.made (ss:=[Zli,Zcn,Zlb]) q77.out (by simp);clear q77;replace hSs:=Zb hSs;refine Ze (i:=29) rfl (by kernel_rfl) (fun K hK=>?_);(try rw [if_pos (by kernel_rfl)]);go_simp;refine (Zmw A3 (some ⟨g73,0,none⟩) 3 3 k3 3 _ _ V75 hL3.out hSs.out).mono ?_;rintro e w80 ⟨bS,rfl,hbo,hbS⟩;replace hL3:=Zb (hL3.out.below hbS);replace q8:=Zb (Zc hbS q8.out);replace q9:=Zb (Zc hbS q9.out);replace hSs:=Zb (hSs.out.below hbS);have hB81:=Zb (hB79.out.trans (hbS.mono hB79.out.size));clear hB79;replace cc38:=Za hbS cc38;replace cc39:=Za hbS cc39;replace cc40:=Za hbS cc40;replace cc41:=Za hbS cc41;replace cc42:=Za hbS cc42;replace cc43:=Za hbS cc43;replace cc44:=Za hbS cc44;replace cc45:=Za hbS cc45;replace cc46:=Za hbS cc46;replace cc47:=Za hbS cc47;replace cc48:=Za hbS cc48;replace cc49:=Za hbS cc49;replace cc50:=Za hbS cc50;replace cc51:=Za hbS cc51;clear hbS;obtain rfl : bS = true:=hbo.2 rfl;clear hbo;refine hK.out _ _ (fun _=>⟨cc38,cc39,cc40,cc41,cc42,cc43,cc44,cc45,cc46,cc47,cc48,cc49,cc50,cc51⟩) ?_;clear hK K
 try simp only [Act.put,putL_a,putL_z,putL_s,putG_a,putG_s,putG_z]
 refine Zd (i:=30) (v:=?vt22) rfl (by kernel_rfl) (by kernel_rfl) (by kernel_rfl) (by kernel_rfl) (by kernel_rfl) (Or.inl ⟨by kernel_rfl,?hyt22⟩) ⟨cc38,cc39,cc40,cc41,cc42,cc43,cc44,cc45,cc46,cc47,cc48,cc49,cc50,cc51⟩ ?rt22
 case hyt22=>(intro W2 hSw;(try dsimp only at hSw);go_simp;try with_reducible rfl)
 try simp only [Act.put,putL_a,putL_z,putL_s,putG_a,putG_s,putG_z]
 refine Zn (i:=31) (v:=?vt23) rfl (by kernel_rfl) (by kernel_rfl) (by kernel_rfl) (by kernel_rfl) (Or.inl ⟨by kernel_rfl,?hyt23⟩) (fun _=>⟨cc38,cc39,cc40,cc41,cc42,cc43,cc44,cc45,cc46,cc47,cc48,cc49,cc50,cc51⟩) ?rt23
 case hyt23=>(intro W2 _;go_simp;try with_reducible rfl)
 try simp only [Act.put,putL_a,putL_z,putL_s,putG_a,putG_s,putG_z]
 refine Zl (by kernel_rfl) ?_ _;refine OnlyNormal.normal ?_;clear cc38 cc39 cc40 cc41 cc42 cc43 cc44 cc45 cc46 cc47 cc48 cc49 cc50 cc51;go_wp2_with fail;go_ret;exact ⟨rfl,hB81.out⟩
end Go.Proofs.YtpehacgjclkhmaaGreat
