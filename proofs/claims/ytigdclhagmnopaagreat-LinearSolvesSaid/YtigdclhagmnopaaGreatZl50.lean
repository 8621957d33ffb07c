/- What lies in memory while package linear's back reckons. -/
import Derived.Test.YtigdclhagmnopaaGreatZl46
import Derived.Test.YtigdclhagmnopaaGreatZl47
import Derived.Test.YtigdclhagmnopaaGreatZl49
set_option linter.unusedSimpArgs false
set_option linter.unusedVariables false
namespace Go.Proofs.YtigdclhagmnopaaGreat
open Go.RowKit
attribute [local go_sem] Zi
section
variable {tS tF tW tR tI tX tB t : TypeId} {w w' W0 : World} {g gn gX gO Bs go2 n c base i : Nat} {A : Option Addr} {L2 : List RZ} {L : List RF} {cs : Array Value} {qs part : List Rat} {xs : List Int} {cur : RS} {row : Option Nat}
theorem Zo1 {neg : Bool} {A : Option Addr} {n c : Nat} {z : Int} (h : Wd w neg A n c z) (hg : w.grownBy w' row) (hr : ∀ r, row = some r -> ∃ o : Obj, w.heap[r]? = some o /\ o.isCells = false) : Wd w' neg A n c z := ⟨h.1, h.2.1, Zge h.2.2 hg hr⟩
theorem Zr6 (h : FOwn tF w g qs) (hg : w.grownBy w' row) (hr : ∀ r, row = some r -> ∃ o : Obj, w.heap[r]? = some o /\ o.isCells = false) : FOwn tF w' g qs := by
 obtain ⟨es, zs, h1, h2, h3⟩ := h
 exact ⟨es, zs, Zcn h1 hg hr, fun e he => ⟨Zo1 (h2 e he).1 hg hr, Zo1 (h2 e he).2 hg hr⟩, h3⟩
theorem Zrl (h : POwn tW w g xs) (hg : w.grownBy w' row) (hr : ∀ r, row = some r -> ∃ o : Obj, w.heap[r]? = some o /\ o.isCells = false) : POwn tW w' g xs := by
 obtain ⟨es, h1, h2, h3⟩ := h
 exact ⟨es, Zcn h1 hg hr, fun e he => ⟨Zge (h2 e he).1 hg hr, (h2 e he).2⟩, h3⟩
theorem Zr7 (h : MatZ tR tW w go2 L2) (hg : w.grownBy w' row) (hr : ∀ r, row = some r -> ∃ o : Obj, w.heap[r]? = some o /\ o.isCells = false) : MatZ tR tW w' go2 L2 := by
 obtain ⟨⟨zs, h1⟩, h2, h3⟩ := h
 exact ⟨⟨zs, Zcn h1 hg hr⟩, fun r hr' => ⟨Zrl (h2 r hr').1 hg hr, (h2 r hr').2⟩, h3⟩
theorem Kept.others {G : Nat -> Prop} (h : Kept G w w') (hG : ∀ k, G k -> ∃ t cs, Blk w k t cs) : KeepsOthers w w' :=
 ⟨h.size, fun k o hk ho => (h.block k (Array.getElem?_eq_some_iff.1 hk).1 (fun hg => by
  obtain ⟨t, cs, hb⟩ := hG k hg
  unfold Blk at hb
  rw [hb] at hk
  cases hk
  exact absurd ho (by simp [Obj.isCells]))).trans hk⟩
def EnvK (tI tX tB tR tW : TypeId) (w : World) (gn gX gO Bs go2 n : Nat) (A : Option Addr) (c : Nat) (L2 : List RZ) : Prop :=
 Blk w gn tI #[.int .i64 n] /\ Blk w gX tX #[.slice (some ⟨gO, 0, none⟩) n n] /\ Blk w Bs tB #[.slice A n c] /\ MatZ tR tW w go2 L2
theorem EnvK.below (h : EnvK tI tX tB tR tW w gn gX gO Bs go2 n A c L2) (hb : Below w.heap.size w w') : EnvK tI tX tB tR tW w' gn gX gO Bs go2 n A c L2 :=
 ⟨Zc hb h.1, Zc hb h.2.1, Zc hb h.2.2.1, h.2.2.2.below hb⟩
theorem EnvK.own (h : EnvK tI tX tB tR tW w gn gX gO Bs go2 n A c L2) (hg : w.grownBy w' row) (hr : ∀ r, row = some r -> ∃ o : Obj, w.heap[r]? = some o /\ o.isCells = false) : EnvK tI tX tB tR tW w' gn gX gO Bs go2 n A c L2 :=
 ⟨Zcn h.1 hg hr, Zcn h.2.1 hg hr, Zcn h.2.2.1 hg hr, Zr7 h.2.2.2 hg hr⟩
def NoT (tI tX tB tR tW t : TypeId) : Prop := tI ≠ t /\ tX ≠ t /\ tB ≠ t /\ tR ≠ t /\ tW ≠ t
theorem EnvK.ne (h : EnvK tI tX tB tR tW w gn gX gO Bs go2 n A c L2) (ht : NoT tI tX tB tR tW t) (hb : Blk w g t cs) : gn ≠ g /\ gX ≠ g /\ Bs ≠ g /\ go2 ≠ g /\ ∀ r ∈ L2, r.g ≠ g := by
 obtain ⟨h1, h2, h3, ⟨zs, h4⟩, h5, -⟩ := h
 refine ⟨fun e => ht.1 ?_, fun e => ht.2.1 ?_, fun e => ht.2.2.1 ?_, fun e => ht.2.2.2.1 ?_, fun r hr e => ht.2.2.2.2 ?_⟩
 ·subst e; exact h1.type hb
 ·subst e; exact h2.type hb
 ·subst e; exact h3.type hb
 ·subst e; exact h4.type hb
 ·obtain ⟨es, h6, -, -⟩ := (h5 r hr).1
  rw [e] at h6
  exact h6.type hb
theorem EnvK.keptG (h : EnvK tI tX tB tR tW w gn gX gO Bs go2 n A c L2) (ht : NoT tI tX tB tR tW t) (hb : Blk w g t cs) (hn : NoLimb cs) (hk : Kept (fun k => k = g) w w') : EnvK tI tX tB tR tW w' gn gX gO Bs go2 n A c L2 := by
 obtain ⟨e1, e2, e3, e4, e5⟩ := h.ne ht hb
 obtain ⟨h1, h2, h3, h4⟩ := h
 exact ⟨hk.blk h1 e1, hk.blk h2 e2, hk.blk h3 e3, h4.keptG hk e4 e5 (fun k hk => ⟨t, cs, hk ▸ hb, hn⟩)⟩
theorem EnvK.grownT (h : EnvK tI tX tB tR tW w gn gX gO Bs go2 n A c L2) (ht : NoT tI tX tB tR tW t) (hg : w.grownBy w' row) (hr : ∀ k, row = some k -> ∃ cs, Blk w k t cs /\ NoLimb cs) : EnvK tI tX tB tR tW w' gn gX gO Bs go2 n A c L2 := by
 cases row with
 | none => exact h.below ⟨hg.os, hg.tape, hg.output, hg.size, fun k hk => hg.block k hk (by simp)⟩
 | some k =>
  obtain ⟨cs, hb, hn⟩ := hr k rfl
  exact h.keptG ht hb hn ⟨hg.os, hg.tape, hg.output, hg.size, fun j hj hne => hg.block j hj (by simpa using hne)⟩
theorem EnvK.sl (h : EnvK tI tX tB tR tW w gn gX gO Bs go2 n (some ⟨go2, 0, none⟩) c L2) (hl : L2.length = n) (hc : n <= c) (hm : c <= maxLen) : SL w (some ⟨go2, 0, none⟩) n c (L2.map RZ.rs) := by
 refine ⟨by rw [List.length_map, hl], hc, hm, fun _ => ⟨go2, 0, rfl, fun k e he => ?_⟩⟩
 rw [List.getElem?_map] at he
 obtain ⟨r, hr, rfl⟩ := Option.map_eq_some_iff.1 he
 rw [Nat.zero_add]
 exact (h.2.2.2.cell hr).1
def OutK (tS tF : TypeId) (w : World) (base gO i : Nat) (L : List RF) : Prop :=
 Blk w gO tS (Z1 (List.replicate i Zau ++ L.map RF.rs)) /\ (∀ r ∈ L, (FOwn tF w r.g r.q /\ r.q.length <= r.c /\ r.c <= maxLen) /\ base <= r.g) /\ (L.map RF.g).Nodup
theorem OutK.own (h : OutK tS tF w base gO i L) (hg : w.grownBy w' row) (hr : ∀ r, row = some r -> ∃ o : Obj, w.heap[r]? = some o /\ o.isCells = false) : OutK tS tF w' base gO i L :=
 ⟨Zcn h.1 hg hr, fun r hr' => ⟨⟨Zr6 (h.2.1 r hr').1.1 hg hr, (h.2.1 r hr').1.2⟩, (h.2.1 r hr').2⟩, h.2.2⟩
def BunK (tI tX tB tR tW tS tF : TypeId) (gn gX gO Bs go2 n : Nat) (A : Option Addr) (c : Nat) (L2 : List RZ) (W0 : World) (i : Nat) (cur : RS) (part : List Rat) (L : List RF) (w : World) : Prop :=
 EnvK tI tX tB tR tW w gn gX gO Bs go2 n A c L2 /\ Blk w gO tS (Z1 (List.replicate i Zau ++ cur :: L.map RF.rs)) /\ OwnF tF w W0.heap.size cur.val part /\ (∀ r ∈ L, FOwn tF w r.g r.q) /\ Kept (fun k => k = gO) W0 w
theorem BunK.below (h : BunK tI tX tB tR tW tS tF gn gX gO Bs go2 n A c L2 W0 i cur part L w) (hb : Below w.heap.size w w') : BunK tI tX tB tR tW tS tF gn gX gO Bs go2 n A c L2 W0 i cur part L w' :=
 ⟨h.1.below hb, Zc hb h.2.1, h.2.2.1.kept hb, fun r hr => (h.2.2.2.1 r hr).below hb, h.2.2.2.2.below hb⟩
theorem OwnF.ownBlk {v : Value} (h : OwnF tF w base v part) : ∀ k, v.ownBlock = some k -> ∃ cs, Blk w k tF cs /\ NoLimb cs /\ base <= k := fun k hk => by
 obtain ⟨es, h1, h2, h3⟩ := h
 rcases h1 with ⟨rfl, _⟩ | ⟨g', sp, rfl, h4, h5, h6⟩
 ·cases hk
 ·have : g' = k := by simpa [Value.ownBlock] using hk
  subst this
  exact ⟨_, h6, Zby _, h4⟩
theorem OwnF.keptG {v : Value} (h : OwnF tF w base v part) {g' : Nat} {t' : TypeId} (hb : Blk w g' t' cs) (hn : NoLimb cs) (hne : v.ownBlock ≠ some g') (hk : Kept (fun k => k = g') w w') : OwnF tF w' base v part := by
 have hG : ∀ k, k = g' -> ∃ t cs, Blk w k t cs /\ NoLimb cs := fun k hk => ⟨t', cs, hk ▸ hb, hn⟩
 obtain ⟨es, h1, h2, h3⟩ := h
 refine ⟨es, ?_, fun e he => ⟨hk.wd (h2 e he).1 hG, hk.wd (h2 e he).2 hG⟩, h3⟩
 rcases h1 with h | ⟨g2, sp, rfl, h4, h5, h6⟩
 ·exact .inl h
 ·exact .inr ⟨g2, sp, rfl, h4, h5, hk.blk h6 (fun e => hne (by rw [<- e]; rfl))⟩
theorem BunK.turn (h : BunK tI tX tB tR tW tS tF gn gX gO Bs go2 n A c L2 W0 i cur part L w) (ht : NoT tI tX tB tR tW tF) (hts : tS ≠ tF) {gs : Nat} (hb : Blk w gs tF cs) (hn : NoLimb cs) (hL : ∀ r ∈ L, r.g ≠ gs) (hc : cur.val.ownBlock ≠ some gs) (hg : W0.heap.size <= gs) (hk : Kept (fun k => k = gs) w w') :
    BunK tI tX tB tR tW tS tF gn gX gO Bs go2 n A c L2 W0 i cur part L w' := by
 obtain ⟨h1, h2, h3, h4, h5⟩ := h
 have hG : ∀ k, k = gs -> ∃ t cs, Blk w k t cs /\ NoLimb cs := fun k hk => ⟨tF, cs, hk ▸ hb, hn⟩
 exact ⟨h1.keptG ht hb hn hk, hk.blk h2 (fun e => hts (by subst e; exact h2.type hb)), h3.keptG hb hn hc hk, fun r hr => (h4 r hr).keptG hk (hL r hr) hG, h5.and hk (fun k h1 h2 => by omega)⟩
theorem BunK.app (h : BunK tI tX tB tR tW tS tF gn gX gO Bs go2 n A c L2 W0 i cur part L w) (ht : NoT tI tX tB tR tW tF) (htS : NoT tI tX tB tR tW tS) (hts : tS ≠ tF) (hL0 : ∀ r ∈ L, r.g < W0.heap.size) {cur' : RS} {part' : List Rat}
    (hg : w.grownBy w' cur.val.ownBlock) (ho : OwnF tF w' W0.heap.size cur'.val part') (hk : ∀ (A : Option Addr) (n c : Nat) (l : List Nat), Lim w A n c l -> Lim w' A n c l) :
    BunK tI tX tB tR tW tS tF gn gX gO Bs go2 n A c L2 W0 i cur' part' L (w'.setCell ⟨gO, i, none⟩ cur'.val) := by
 obtain ⟨h1, h2, h3, h4, h5⟩ := h
 have hob := h3.ownBlk
 have e1 := h1.grownT ht hg (fun k hk => by obtain ⟨cs, a, b, -⟩ := hob k hk; exact ⟨cs, a, b⟩)
 have hneO : cur.val.ownBlock ≠ some gO := fun e => by
  obtain ⟨cs, a, -, -⟩ := hob gO e
  exact hts (h2.type a)
 have b2 : Blk w' gO tS (Z1 (List.replicate i Zau ++ cur :: L.map RF.rs)) := (hg.block gO h2.lt (fun e => hneO e.symm)).trans h2
 have f4 : ∀ r ∈ L, FOwn tF w' r.g r.q := fun r hr => (h4 r hr).grown hg (fun e => by
  have := (hob _ e).choose_spec.2.2
  have := hL0 r hr
  omega) hk
 have k5 : Kept (fun k => k = gO) W0 w' := h5.grownG hg (fun k hk => (hob k hk).choose_spec.2.2)
 have hnl := Zap (List.replicate i Zau ++ cur :: L.map RF.rs)
 have kS : Kept (fun k => k = gO) w' (w'.setCell ⟨gO, i, none⟩ cur'.val) := Kept.set_ (G := fun k => k = gO) (Kept.refl _ _) (p := ⟨gO, i, none⟩) (.inl rfl) _
 have hG : ∀ k, k = gO -> ∃ t cs, Blk w' k t cs /\ NoLimb cs := fun k hk => ⟨tS, _, hk ▸ b2, hnl⟩
 refine ⟨e1.keptG htS b2 hnl kS, ?_, ho.keptG b2 hnl (fun e => ?_) kS, fun r hr => (f4 r hr).keptG kS (fun e => ?_) hG, k5.trans kS⟩
 ·have := b2.set_ i cur'.val
  rw [show cur'.val = .slice cur'.A cur'.n cur'.c from rfl, Zcp cur'] at this
  rw [List.set_append_right _ _ (by simp), List.length_replicate, Nat.sub_self, List.set_cons_zero] at this
  exact this
 ·obtain ⟨cs, a, -, -⟩ := ho.ownBlk gO e
  exact hts (b2.type a)
 ·obtain ⟨es, zs, a, -, -⟩ := f4 r hr
  rw [e] at a
  exact hts (b2.type a)
theorem BunK.out (h : BunK tI tX tB tR tW tS tF gn gX gO Bs go2 n A c L2 W0 i cur part L w) (hp : part ≠ []) (hO : OutK tS tF W0 base gO (i + 1) L) (hb : base <= W0.heap.size) : ∃ r : RF, r.q = part /\ OutK tS tF w base gO i (r :: L) := by
 obtain ⟨h1, h2, h3, h4, h5⟩ := h
 rcases h3.fown with ⟨e, e2⟩ | ⟨g, cc, e, hg, hc1, hc2, hF⟩
 ·exact absurd e2 hp
 ·have hcur : cur = ⟨some ⟨g, 0, none⟩, part.length, cc⟩ := by
    obtain ⟨a, b, d⟩ := cur
    simp only [RS.val, Value.slice.injEq] at e
    obtain ⟨rfl, rfl, rfl⟩ := e; rfl
  subst hcur
  refine ⟨⟨g, cc, part⟩, rfl, h2, fun r hr => ?_, ?_⟩
  ·rcases List.mem_cons.1 hr with rfl | hr
   ·exact ⟨⟨hF, hc1, hc2⟩, Nat.le_trans hb hg⟩
   ·exact ⟨⟨h4 r hr, (hO.2.1 r hr).1.2⟩, (hO.2.1 r hr).2⟩
  ·rw [List.map_cons, List.nodup_cons]
   refine ⟨fun hm => ?_, hO.2.2⟩
   obtain ⟨r, hr, e⟩ := List.mem_map.1 hm
   have h1 := (hO.2.1 r hr).1.1.lt
   have h2 : g = r.g := e.symm
   omega
end
end Go.Proofs.YtigdclhagmnopaaGreat
