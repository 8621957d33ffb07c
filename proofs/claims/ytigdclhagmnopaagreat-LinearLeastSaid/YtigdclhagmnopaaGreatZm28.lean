/- slices.Backward over rows: from the last one down. A range -/
import Derived.RangeFuncNested
import Derived.Test.YtigdclhagmnopaaGreatZm27
set_option maxRecDepth 100000
set_option maxHeartbeats 2000000
set_option linter.unusedSimpArgs false
set_option linter.unusedVariables false
namespace Go.Proofs.YtigdclhagmnopaaGreat
open Go.RowKit Go.Shelf
attribute [local go_sem] Zh
attribute [local go_sem] Oper.semAt_some
def rsAt (es : List RS) (k : Nat) : RS := es[k]?.getD ⟨none, 0, 0⟩
def SL (w : World) (A : Option Addr) (n c : Nat) (es : List RS) : Prop :=
 es.length = n /\ n <= c /\ c <= maxLen /\ (0 < n -> ∃ g o, A = some ⟨g, o, none⟩ /\ ∀ (k : Nat) (e : RS), es[k]? = some e -> w.cell? ⟨g, o + k, none⟩ = some (.slice e.A e.n e.c))
theorem SL.below {w w' : World} {A : Option Addr} {n c : Nat} {es : List RS} (h : SL w A n c es) (hb : Below w.heap.size w w') : SL w' A n c es :=
 ⟨h.1, h.2.1, h.2.2.1, fun hn => by
  obtain ⟨b, o, e, hc⟩ := h.2.2.2 hn
  exact ⟨b, o, e, fun k x hx => Zb hb (hc k x hx)⟩⟩
theorem SL.at_ {w : World} {A : Option Addr} {n c : Nat} {es : List RS} (h : SL w A n c es) {k : Nat} (hk : k < n) : ∃ b o e, A = some ⟨b, o, none⟩ /\ es[k]? = some e /\ w.cell? ⟨b, o + k, none⟩ = some (.slice e.A e.n e.c) := by
 obtain ⟨h1, -, -, h4⟩ := h
 obtain ⟨b, o, e, hc⟩ := h4 (by omega)
 have he := List.getElem?_eq_getElem (l := es) (i := k) (by omega)
 exact ⟨b, o, es[k], e, he, hc k _ he⟩
theorem sl_kept {W W' : World} {row : Option Nat} {A : Option Addr} {n c : Nat} {es : List RS} (h : SL W A n c es) (hg : W.grownBy W' row) (hrow : ∀ r, row = some r -> ∃ o : Obj, W.heap[r]? = some o /\ o.isCells = false) : SL W' A n c es :=
 ⟨h.1, h.2.1, h.2.2.1, fun hn => by
  obtain ⟨b, o, e, hc⟩ := h.2.2.2 hn
  exact ⟨b, o, e, fun k x hx => cell_kept (hc k x hx) hg hrow⟩⟩
def KpR (Bs : Nat) (A : Option Addr) (n c : Nat) (es : List RS) (W W' : World) : Prop :=
 (W.cell? ⟨Bs, 0, none⟩ = some (.slice A n c) -> W'.cell? ⟨Bs, 0, none⟩ = some (.slice A n c)) /\ (SL W A n c es -> SL W' A n c es)
theorem KpR.trans {Bs n c : Nat} {A : Option Addr} {es : List RS} {W1 W2 W3 : World} (h : KpR Bs A n c es W1 W2) (k : KpR Bs A n c es W2 W3) : KpR Bs A n c es W1 W3 := ⟨fun x => k.1 (h.1 x), fun x => k.2 (h.2 x)⟩
theorem KpR.put {Bs n c : Nat} {A : Option Addr} {es : List RS} (W : World) (lp : Nat) (o o' : Obj) (ho : W.heap[lp]? = some o) (hc : o.isCells = false) : KpR Bs A n c es W (W.putObj lp o') :=
 ⟨fun h => cell_kept h (grownBy_putObj' W lp o') (fun r e => by cases e; exact ⟨o, ho, hc⟩), fun h => sl_kept h (grownBy_putObj' W lp o') (fun r e => by cases e; exact ⟨o, ho, hc⟩)⟩
theorem Zsm (A : Option Addr) (n c : Nat) (w : World) :
    Calls Tryz.prog 116 #[.slice A n c] w fun e w' => e = .returned (.func (.func 155) #[] #[.pointer (some ⟨w.heap.size, 0, none⟩)]) /\ w.alloc (.cells #[.slice A n c] 88) = w' := by
 go_enter Tryz.func116, Tryz.ntmps116
 go_wp2
 go_ret
 exact ⟨rfl, rfl⟩
open Go.RowKit
def Zth (d : Nat) (P : Program) (gf : Nat) (lb : Array Value) (encs : Nat -> Array Value) (Kp : World -> World -> Prop) (N : Nat) (w : World) : Prop :=
 ∀ (l : Nat) (J : Nat -> World -> Prop) (W : World), Below w.heap.size w W -> AbidesFrom W.heap.size J ->
  (∀ k V, k < N -> J k V -> YieldAt Fence.wide (d - 1) P l (encs k) V fun e V' => e = .returned (.bool true) /\ J (k + 1) V' /\ Kp V V') ->
  J 0 W -> CallsIn Fence.wide d P gf (#[.func (.yield l) #[] #[]] ++ lb) W fun e V' => (∃ v, e = .returned v) /\ J N V'
def goesOn (Kp : World -> World -> Prop) (J : World -> Prop) (W : World) : Exit -> Act -> World -> Prop
 | .normal, _, W' => KeepsOthers W W' /\ Kp W W' /\ J W'
 | .ret, _, _ => False
 | .exit _, _, _ => False
 | .goto _, _, _ => False
 | .panic _, _, _ => False
 | .outgrown, _, _ => False
theorem Zk0 {d : Nat} {P : Program} {g : Operand} {ps : Array Tmp} {assign body : Code} {Q : Exit -> Act -> World -> Prop} {a : Act} {w : World} (h1 : 1 <= d) {gf : Nat} {lb : Array Value}
    (hg : a.eval g = .func (.func gf) #[] lb) (eg : ∀ args w, (callFunc gf args).run P w = .ok (.enter gf args) w)
    {encs : Nat -> Array Value} {Kp : World -> World -> Prop} {N : Nat} {w0 : World} (hseq : Zth (d - 1) P gf lb encs Kp N w0)
    (hKt : ∀ {A B C : World}, Kp A B -> Kp B C -> Kp A C) (hKb : ∀ (W : World) (l : Nat) (o o' : Obj), w.heap.size <= l -> W.heap[l]? = some o -> o.isCells = false -> o.isWalk = false -> Kp W (W.putObj l o')) (hb0 : Below w0.heap.size w0 w) (hps : ∀ k, (encs k).size = ps.size)
    (I : Nat -> World -> Prop) (hI : OwnFrom w.heap.size I) (h0 : I 0 w) (a₁ : Nat -> Act)
    (hassign : ∀ (l k : Nat) (W : World) (K : Act -> World -> Prop), k < N -> K (a₁ k) W ->
     assign.wpIn (Fence.wide.inRound l) (d - 1 - 1) P (Exit.then K (fun _ _ _ => False)) { tmps := (ps.zip (encs k)).foldl (fun t (p, v) => t.setIfInBounds p v) a.tmps, defers := [] } W)
    (hbody : ∀ (l k : Nat) (W : World), k < N -> I k W -> body.wpIn (Fence.wide.inRound l) (d - 1 - 1) P (goesOn Kp (I (k + 1)) W) (a₁ k) W)
    (hdone : ∀ (D : Nat) (W : World), w.heap.size <= D -> I N W -> W.heap[D]? = some (.deferred (some [])) -> Q .normal { a with defers := { target := .collected D, args := #[] } :: a.defers } W) :
    (Code.rangeFunc g ps assign body).wpIn Fence.wide d P Q a w := by
 refine wpIn_rangeFunc fun fn hfn => ?_
 rw [show Fence.wide.round = none from rfl]
 obtain ⟨B, hB⟩ : ∃ B, w.heap.size = B := ⟨_, rfl⟩
 rw [hB] at hI hKb hdone
 obtain ⟨rec, hrec⟩ : ∃ rec : LoopState -> Option Code -> Loop, rec = fun st pe => { state := st, pending := pe, fn, tmps := a.tmps, params := ps, assign, body, defers := B } := ⟨_, rfl⟩
 obtain ⟨W1, hW1⟩ : ∃ V, (w.alloc (.deferred (some []))).alloc (.loop (rec .ready none)) = V := ⟨_, rfl⟩
 have sz : W1.heap.size = B + 1 + 1 := by rw [<- hW1, <- hB]; simp
 have lp : W1.heap[B + 1]? = some (.loop (rec .ready none)) := by
  have h := World.alloc_heap_new (w.alloc (.deferred (some []))) (.loop (rec .ready none))
  rw [World.size_alloc, hB, hW1] at h
  exact h
 have df : W1.heap[B]? = some (.deferred (some [])) := by
  rw [<- hW1, <- hB]
  exact (Below.heap_alloc _ _ _ (by simp)).trans (World.alloc_heap_new w _)
 have i1 : I 0 W1 := by rw [<- hW1]; exact hI.alloc _ (hI.alloc _ h0)
 have b1 : Below w0.heap.size w0 W1 := by
  rw [<- hW1]
  exact hb0.trans (((Below.refl _ w).alloc (Nat.le_refl _) _).trans ((Below.refl _ _).alloc (by simp) _) |>.mono hb0.size)
 obtain ⟨J, hJ⟩ : ∃ J : Nat -> World -> Prop, J = fun k W => I k W /\ W.heap[B + 1]? = some (.loop (rec .ready none)) /\ W.heap[B]? = some (.deferred (some [])) := ⟨_, rfl⟩
 have key := hseq (B + 1) J W1 b1 (fun k X Y row hs hgr hr => by
     rw [hJ] at hs ⊢
     have hr2 : ∀ r, row = some r -> ∃ o : Obj, X.heap[r]? = some o /\ o.isWalk = true := fun r e => (hr r e).2
     refine ⟨hI k X Y row hs.1 hgr (fun r e => ?_), (grownBy_keeps hgr hr2 hs.2.1 rfl).trans hs.2.1, (grownBy_keeps hgr hr2 hs.2.2 rfl).trans hs.2.2⟩
     obtain ⟨hl, o, ho, hw⟩ := hr r e
     exact ⟨by omega, o, ho, Obj.not_cells_of_walk hw⟩)
  (fun k V hk hs => by
   rw [hJ] at hs
   obtain ⟨hi, hl, hd⟩ := hs
   have hlt : B + 1 < V.heap.size := (Array.getElem?_eq_some_iff.1 hl).1
   have hy := run_yield (P := P) (args := encs k) hl (by rw [hrec]; exact hps k)
   rw [hrec] at hy
   obtain ⟨V2, hV2⟩ : ∃ X, V.putObj (B + 1) (.loop { rec .ready none with state := .busy }) = X := ⟨_, rfl⟩
   refine ⟨fn, _, assign, body, hy, roundIn_of_wpIn hfn (hassign _ k V _ hk ⟨V2, by rw [<- hV2]; exact run_beginRound hl (by rw [hrec]), ?_⟩)⟩
   have hl2 : V2.heap[B + 1]? = some (.loop { rec .ready none with state := .busy }) := by rw [<- hV2]; exact World.putObj_heap_same hlt
   have hd2 : V2.heap[B]? = some (.deferred (some [])) := by rw [<- hV2]; exact (World.putObj_heap_other (by omega)).trans hd
   have hp2 : Kp V V2 := by rw [<- hV2]; exact hKb _ _ _ _ (by omega) hl rfl rfl
   have hi2 : I k V2 := by rw [<- hV2]; exact hI.putObj _ hi (by omega) hl rfl
   refine wpIn_mono (hbody _ k V2 hk hi2) fun e a3 V3 hq => ?_
   cases e with
   | normal =>
    obtain ⟨ko, kp, i3⟩ := hq
    have hl3 := ko.same _ _ hl2 rfl
    have hend := run_endRound (P := P) none hl3
    rw [hrec] at hend hl3
    refine ⟨_, _, hend, rfl, ?_, hKt (hKt hp2 kp) (hKb _ _ _ _ (by omega) hl3 rfl rfl)⟩
    rw [hJ]
    refine ⟨hI.putObj _ i3 (by omega) hl3 rfl, ?_, (World.putObj_heap_other (by omega)).trans (ko.same _ _ hd2 rfl)⟩
    rw [hrec]
    exact World.putObj_heap_same (Array.getElem?_eq_some_iff.1 hl3).1
   | ret => exact hq.elim
   | exit id => exact hq.elim
   | goto t => exact hq.elim
   | panic ch => exact hq.elim
   | outgrown => exact hq.elim)
  (by rw [hJ]; exact ⟨i1, lp, df⟩)
 refine ⟨B + 1, [{ target := .collected B, args := #[] }], W1, { target := .fn (.func gf) lb, args := #[.func (.yield (B + 1)) #[] #[]] }, W1, gf, #[.func (.yield (B + 1)) #[] #[]] ++ lb, W1, ?_, ?_, fun _ _ => trivial, ?_, fun _ => h1, ?_⟩
 ·rw [<- hW1, hrec, <- hB]; exact run_enterLoop_outer _ _ _ _ _
 ·simp only [resolve, hg]
  simp [go_sem]
 ·simp [invoke, go_sem, eg]
 ·refine key.mono ?_
  rintro e W2 ⟨⟨v, rfl⟩, hs⟩
  rw [hJ] at hs
  obtain ⟨hi, hl, hd⟩ := hs
  have hend := run_endLoop (P := P) hl (by rw [hrec]; simp)
  rw [hrec] at hend
  exact ⟨none, _, hend, hdone _ _ (Nat.le_refl _) (hI.putObj _ hi (by omega) hl rfl) ((World.putObj_heap_other (by omega)).trans hd)⟩
def Zko (es : List RS) (n : Nat) (k : Nat) : Array Value := #[.int .i64 ((n - 1 - k : Nat) : Int), RS.val (rsAt es (n - 1 - k))]
theorem Zs3 (d : Nat) (hd : 1 <= d) (Bs n c : Nat) (A : Option Addr) (es : List RS) (w : World) (hc : w.cell? ⟨Bs, 0, none⟩ = some (.slice A n c)) (hL0 : SL w A n c es) :
    Zth d Tryz.prog 155 #[.pointer (some ⟨Bs, 0, none⟩)] (Zko es n) (KpR Bs A n c es) n w := by
 intro lp J W hW _ hY h0
 have hBs : W.cell? ⟨Bs, 0, none⟩ = some (.slice A n c) := (hW.cell (Zm hc)).trans hc
 have hL : SL W A n c es := hL0.below hW
 clear hW hc hL0
 have hnc := hL.2.1
 have hcm := hL.2.2.1
 unfold maxLen at hcm
 refine callsIn_of_wp Tryz.func155 rfl trivial ?_ rfl
 simp only [Tryz.ntmps155, List.size_toArray, List.length_cons, List.length_nil, Nat.reduceAdd, Nat.reduceSub, Array.replicate_succ, Array.replicate_zero, List.push_toArray, List.append_toArray, List.nil_append, List.cons_append]
 gi_wp2
 gi_loopw [3] (fun i wr => ∃ k : Nat, k <= n /\ i = .int .i64 ((n : Int) - 1 - k) /\ J k wr /\ Hid (wr.cell? ⟨Bs, 0, none⟩ = some (.slice A n c)) /\ SL wr A n c es)
  (fun i _ => (intOf i + 1).toNat)
 case atStart => exact ⟨0, Nat.zero_le _, by go_num, h0, hBs, hL⟩
 case round =>
  obtain ⟨k, hk, rfl, hJs, hbx', hLr⟩ := hrel
  have hbx := hbx'.out
  by_cases hlt : k < n
  ·obtain ⟨b, o, e, rfl, he, hc1⟩ := hLr.at_ (k := n - 1 - k) (by omega)
   obtain ⟨fn, tmps, assign, body, hy, hR⟩ := hY k wr hlt hJs
   dsimp only [Zko, RS.val, rsAt] at hy
   rw [he, Option.getD_some] at hy
   rw [show ((n - 1 - k : Nat) : Int) = (n : Int) - 1 - k by omega] at hy
   gi_wp2
   refine hR.mono ?_
   rintro e W3 ⟨rfl, hJ3, hk3⟩
   have hbx3 := Za (hk3.1 hbx'.out)
   gi_wp2
   go_roundw
   case rel => exact ⟨k + 1, by omega, by go_num, hJ3, hbx3, hk3.2 hLr⟩
   case measure => simp [intOf]; omega
  ·obtain rfl : k = n := by omega
   gi_wp2
   go_end0
   exact ⟨⟨_, rfl⟩, hJs⟩
end Go.Proofs.YtigdclhagmnopaaGreat
