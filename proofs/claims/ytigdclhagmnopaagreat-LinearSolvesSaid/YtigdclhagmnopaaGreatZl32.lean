/- A matrix of fractions that grows row by row; the -/
import Derived.Test.YtigdclhagmnopaaGreatZl31
set_option maxRecDepth 100000
set_option maxHeartbeats 2000000
set_option linter.unusedSimpArgs false
set_option linter.unusedVariables false
namespace Go.Proofs.YtigdclhagmnopaaGreat
open Go.RowKit
attribute [local go_sem] Zi
section
variable {P : Program} (w : World)
theorem Zbu {o : Oper} {a : Act} {K : Act -> World -> Prop} {Q : Exit -> Act -> World -> Prop} (s x : Operand) (t : TypeId)
    (ho : o.op = .call { callee := .builtin .append, args := #[s, x], argTypes := #[t, t] })
    (base : Nat) (e : TypeId) (i : TypeInfo) (ht : P.underlying t = some (.slice e)) (hi : P.info? e = some i) (hz : i.zero = some (.slice none 0 0)) (hsi : i.size = 1) (hby : i.bytes = 24)
    (v : Value) (rs : List RS) (hs : a.eval s = v) (hown : RowS e w base v rs)
    (B : Nat) (A : Option Addr) (m c : Nat) (fs : List RS) (hx : a.eval x = .slice A m c) (hr : Reads w B 1 A m (Zaj fs)) (hm : fs.length = m)
    (h63 : rs.length + m <= 1000) (hbase : base <= w.heap.size)
    (h : ∀ v' w', RowS e w' base v' (rs ++ fs) -> w.grownBy w' v.ownBlock -> (∀ (A : Option Addr) (n c : Nat) (l : List Nat), Lim w A n c l -> Lim w' A n c l) -> K (a.put o.dst v') w') : o.wp P a w K Q := by
 obtain ⟨v', w', hrun, h3, h4⟩ := Zju (P := P) w base t o.type e i ht hi hz hsi hby v rs hown B A m c fs hr hm h63 hbase
 unfold Oper.wp execOp
 simp only [ho, resolve, invoke, builtin, Sem.run_bind, Sem.run_pure, Result.andThen_ok, List.map_toArray, List.map_cons, List.map_nil, hs, hx, hrun]
 exact h v' w' h3 h4 (fun _ _ _ _ hL => hown.keep h4 hL)
theorem Zcf {ops : Array Oper} {rest : List Oper} {o : Oper} {a : Act} {Q : Exit -> Act -> World -> Prop} (hgd : o.guard = none) (s x : Operand) (t : TypeId)
    (ho : o.op = .call { callee := .builtin .append, args := #[s, x], argTypes := #[t, t] })
    (base : Nat) (e : TypeId) (i : TypeInfo) (ht : P.underlying t = some (.slice e)) (hi : P.info? e = some i) (hz : i.zero = some (.slice none 0 0)) (hsi : i.size = 1) (hby : i.bytes = 24)
    (v : Value) (rs : List RS) (hs : a.eval s = v) (hown : RowS e w base v rs)
    (B : Nat) (A : Option Addr) (m c : Nat) (fs : List RS) (hx : a.eval x = .slice A m c) (hr : Reads w B 1 A m (Zaj fs)) (hm : fs.length = m)
    (h63 : rs.length + m <= 1000) (hbase : base <= w.heap.size)
    (h : ∀ v' w', RowS e w' base v' (rs ++ fs) -> w.grownBy w' v.ownBlock -> (∀ (A : Option Addr) (n c : Nat) (l : List Nat), Lim w A n c l -> Lim w' A n c l) -> wpList P ops Q rest (a.put o.dst v') w') : wpList P ops Q (o :: rest) a w :=
 wpList_plain hgd fun _ hK => Zbu w s x t ho base e i ht hi hz hsi hby v rs hs hown B A m c fs hx hr hm h63 hbase fun v' w' h2 h3 h4 => hK _ _ (h v' w' h2 h3 h4)
end
theorem Zgu (w : World) (A : Option Addr) (n c : Nat) (t : TypeId) : Reads (w.alloc (.cells #[.slice A n c] t)) (w.heap.size + 1) 1 (some ⟨w.heap.size, 0, none⟩) 1 (Zaj [⟨A, n, c⟩]) :=
 ⟨rfl, fun _ => ⟨_, rfl, Nat.lt_succ_self _, fun j u hu => by
  rw [Zi, Nat.zero_add, (Blk.new w t #[.slice A n c]).cell]
  simpa [Zaj] using hu⟩⟩
theorem FL.reads {w : World} {A : Option Addr} {n c : Nat} {qs : List Rat} (h : FL w A n c qs) : ∃ fs : List FE, Reads w w.heap.size 4 A n (Zm fs) /\ fs.length = n /\ (∀ e ∈ fs, e.in_ w) /\ fs.map FE.q = qs := by
 obtain ⟨es, h1, h2, h3, h4, h5, h6⟩ := h
 refine ⟨es, ⟨by rw [Zp, h1], fun hn => ?_⟩, h1, h4, h5⟩
 obtain ⟨g, o, e1, hc⟩ := h6 hn
 refine ⟨⟨g, o, none⟩, e1, ?_, fun j u hu => ?_⟩
 ·have := (hc 0 es[0] (List.getElem?_eq_getElem (by omega))).1
  exact Zr this
 ·rw [Zi]
  have hj : j < es.length * 4 := by
   have := (List.getElem?_eq_some_iff.1 hu).1
   rwa [Zp] at this
  have he := List.getElem?_eq_getElem (show j / 4 < es.length by omega)
  have hg := Zei he
  have hm := hc (j / 4) _ he
  have h4 : j % 4 = 0 \/ j % 4 = 1 \/ j % 4 = 2 \/ j % 4 = 3 := by omega
  rcases h4 with h2 | h2 | h2 | h2
  ·rw [show j / 4 * 4 = j by omega] at hg hm; rw [hg.1] at hu; cases hu; exact hm.1
  ·rw [show j / 4 * 4 + 1 = j by omega] at hg hm; rw [hg.2.1] at hu; cases hu; exact hm.2.1
  ·rw [show j / 4 * 4 + 2 = j by omega] at hg hm; rw [hg.2.2.1] at hu; cases hu; exact hm.2.2.1
  ·rw [show j / 4 * 4 + 3 = j by omega] at hg hm; rw [hg.2.2.2] at hu; cases hu; exact hm.2.2.2
theorem Zcq : (Tryz.prog.info? 45).map (fun i => (i.zero, i.size, i.bytes)) = some (some (.agg #[.bool false, .slice none 0 0, .bool false, .slice none 0 0]), 4, 64) := by kernel_rfl
theorem Zfl : (Tryz.prog.info? 40).map (fun i => (i.zero, i.size, i.bytes)) = some (some (.slice none 0 0), 1, 24) := by kernel_rfl
def MatO (tS tF : TypeId) (w : World) (base : Nat) (v : Value) (L : List RF) : Prop :=
 RowS tS w base v (L.map RF.rs) /\ (∀ r ∈ L, (FOwn tF w r.g r.q /\ r.q.length <= r.c /\ r.c <= maxLen) /\ base <= r.g) /\ (L.map RF.g).Nodup
theorem Blk.type {w : World} {g : Nat} {t t' : TypeId} {cs cs' : Array Value} (h : Blk w g t cs) (h' : Blk w g t' cs') : t = t' := by
 unfold Blk at h h'
 rw [h] at h'
 cases h'; rfl
section
variable {tS tF : TypeId} {w w' : World} {base : Nat} {v v' : Value} {L : List RF}
theorem MatO.nil (tS tF : TypeId) (w : World) (base : Nat) : MatO tS tF w base (.slice none 0 0) [] := ⟨.inl ⟨rfl, rfl⟩, fun r hr => (by cases hr), List.nodup_nil⟩
theorem MatO.kept (h : MatO tS tF w base v L) (hb : Below w.heap.size w w') : MatO tS tF w' base v L := ⟨h.1.kept hb, fun r hr => ⟨⟨(h.2.1 r hr).1.1.below hb, (h.2.1 r hr).1.2⟩, (h.2.1 r hr).2⟩, h.2.2⟩
theorem RowS.ownType {rs : List RS} (h : RowS tS w base v rs) {g : Nat} {cs : Array Value} (hb : Blk w g tF cs) (hne : tS ≠ tF) : v.ownBlock ≠ some g := by
 rintro e
 rcases h with ⟨rfl, _⟩ | ⟨g', sp, rfl, _, _, h4⟩
 ·cases e
 ·have : g' = g := by simpa [Value.ownBlock] using e
  subst this
  exact hne (h4.type hb)
theorem FOwn.grown {g : Nat} {qs : List Rat} (h : FOwn tF w g qs) (hg : w.grownBy w' v.ownBlock) (hne : v.ownBlock ≠ some g) (hk : ∀ (A : Option Addr) (n c : Nat) (l : List Nat), Lim w A n c l -> Lim w' A n c l) : FOwn tF w' g qs := by
 obtain ⟨es, zs, h1, h2, h3⟩ := h
 exact ⟨es, zs, (hg.block g h1.lt (fun e => hne (by first | exact e | exact e.symm))).trans h1, fun e he => (h2 e he).of_keep hk, h3⟩
theorem MatO.snoc (h : MatO tS tF w base v L) (hne : tS ≠ tF) {r : RF} (hr : FOwn tF w r.g r.q /\ r.q.length <= r.c /\ r.c <= maxLen) (hbr : base <= r.g) (hnew : ∀ s ∈ L, s.g ≠ r.g) (h1 : RowS tS w' base v' (L.map RF.rs ++ [r.rs])) (hg : w.grownBy w' v.ownBlock)
    (hk : ∀ (A : Option Addr) (n c : Nat) (l : List Nat), Lim w A n c l -> Lim w' A n c l) : MatO tS tF w' base v' (L ++ [r]) := by
 have ow : ∀ {s : RF}, FOwn tF w s.g s.q -> v.ownBlock ≠ some s.g := fun hs => by obtain ⟨es, zs, q1, -, -⟩ := hs; exact h.1.ownType q1 hne
 refine ⟨by rw [List.map_append]; exact h1, fun s hs => ?_, ?_⟩
 ·rcases List.mem_append.1 hs with hs | hs
  ·have := h.2.1 s hs
   exact ⟨⟨this.1.1.grown hg (ow this.1.1) hk, this.1.2⟩, this.2⟩
  ·rw [List.mem_singleton] at hs
   subst hs
   exact ⟨⟨hr.1.grown hg (ow hr.1) hk, hr.2⟩, hbr⟩
 ·rw [List.map_append, List.nodup_append]
  refine ⟨h.2.2, by simp, fun a ha b hb => ?_⟩
  obtain ⟨s, hs, rfl⟩ := List.mem_map.1 ha
  simp only [List.map_cons, List.map_nil, List.mem_singleton] at hb
  rw [hb]
  exact hnew s hs
theorem MatO.mat (h : MatO tS tF w base v L) (hne : tS ≠ tF) (hl : L ≠ []) : ∃ go cap, v = .slice (some ⟨go, 0, none⟩) L.length cap /\ L.length <= cap /\ cap <= maxLen /\ base <= go /\ MatB tS tF w go L /\ ∀ r ∈ L, base <= r.g := by
 rcases h.1 with ⟨-, h2⟩ | ⟨go, sp, rfl, h2, h3, h4⟩
 ·exact absurd (List.map_eq_nil_iff.1 h2) hl
 ·refine ⟨go, _, by rw [List.length_map], by rw [List.length_map]; omega, h3, h2, ⟨⟨_, h4⟩, fun r hr => (h.2.1 r hr).1, ?_⟩, fun r hr => (h.2.1 r hr).2⟩
  refine List.nodup_cons.2 ⟨fun hm => ?_, h.2.2⟩
  obtain ⟨r, hr, e⟩ := List.mem_map.1 hm
  obtain ⟨es, zs, q1, -, -⟩ := (h.2.1 r hr).1.1
  rw [e] at q1
  exact hne (h4.type q1)
end
theorem Zht (A : Option Addr) (n c m : Nat) (Q : List (List Rat)) (w : World) (h : MFL w A n c Q) (hn9 : n <= 900) (hm : ∀ i, i < n -> (Q[i]?.getD []).length = m) (hm0 : 0 < m) (hm9 : m <= 900) :
    Calls Tryz.prog 53 #[.slice A n c] w fun e w' => ∃ v L, e = .returned v /\ Below w.heap.size w w' /\ MatO 40 45 w' w.heap.size v L /\ L.map RF.q = Q := by
 obtain ⟨iF, hi, hz0, hz1, hz2⟩ := info_parts Zcq
 obtain ⟨iS, ki, kz0, kz1, kz2⟩ := info_parts Zfl
 have hmx : Tryz.prog.follows .mixedOrders = true := by kernel_rfl
 have hl := Za h.1
 have hnc := h.2.1
 have hcm := h.2.2.1
 unfold maxLen at hcm
 have hne : (40 : TypeId) ≠ 45 := by decide
 replace hm := Za hm
 replace h := Za h
 go_enter Tryz.func53, Tryz.ntmps53
 go_wp2_with fail
 go_loopg [3, 4] n (fun k ov iv wr => ∃ (i : Nat) (L : List RF), i + k = n /\ iv = .int .i64 i /\ MatO 40 45 wr w.heap.size ov L /\ Hid (L.map RF.q = Q.take i) /\ Below w.heap.size w wr)
 case atStart => exact ⟨0, [], by omega, rfl, MatO.nil _ _ _ _, Za (by simp), Below.refl _ _⟩
 case round =>
  obtain ⟨i, L, hik, rfl, hM, hQ, hB⟩ := hrel
  have hLl : L.length = i := by
   have h1 : (L.map RF.q).length = (Q.take i).length := by rw [hQ.out]
   rw [List.length_map, List.length_take, hl.out] at h1
   omega
  cases gk with
  | zero =>
   obtain rfl : i = n := by omega
   have t1 : decide ((i : Int) < (i : Int)) = false := by simp
   replace hM := Za hM
   go_wp2_with fail
   go_ret
   exact ⟨_, L, rfl, hB, hM.out, by rw [hQ.out]; exact List.take_of_length_le (by rw [hl.out]; exact Nat.le_refl _)⟩
  | succ j =>
   obtain rfl : j = n - (i + 1) := by omega
   have hin : i < n := by omega
   have t1 : decide ((i : Int) < (n : Int)) = true := decide_eq_true (by omega)
   have bi : (i : Int) < (n : Int) := by omega
   obtain ⟨g, o, A1, n1, c1, rfl, k0, hF⟩ := (h.out.below hB).at_ hin
   have hn1 : n1 = m := by rw [<- hF.len]; exact hm.out i hin
   subst hn1
   have hF0 := hF.below ((Below.refl wr.heap.size wr).alloc (Nat.le_refl _) (.cells #[] 45))
   have k1 := Zb ((Below.refl wr.heap.size wr).alloc (Nat.le_refl _) (.cells #[] 45)) k0
   have hnil : OwnF 45 (wr.alloc (.cells #[] 45)) wr.heap.size (.slice (some ⟨wr.heap.size, 0, none⟩) 0 0) [] := ⟨[], .inr ⟨wr.heap.size, 0, rfl, Nat.le_refl _, Nat.zero_le _, Blk.new _ _ _⟩, fun e he => (by cases he), rfl⟩
   obtain ⟨fs, hR, hfl, hfe, hfq⟩ := hF0.reads
   have hB1 : Below wr.heap.size wr (wr.alloc (.cells #[] 45)) := (Below.refl wr.heap.size wr).alloc (Nat.le_refl _) _
   have hlt : ∀ s ∈ L, s.g < wr.heap.size := fun s hs => (hM.2.1 s hs).1.1.lt
   replace hlt := Za hlt
   replace hM := Za hM
   clear hF hF0
   go_wp2_with (first
    | (at_builtin; refine Zbn _ rfl (.tmp 12) (.tmp 16) 40 rfl wr.heap.size 45 iF Tryz.underlying40 hi hz0 hz1 hz2 _ [] rfl hnil _ _ _ _ fs rfl hR hfl hfe (by simp; omega) (by simp) ?_
       intro v2 w2 hO2 hg2 hk2
       have hbW2 : Below wr.heap.size wr w2 := hB1.grown hg2 hB1.size (fun k hk => by cases hk; exact Nat.le_refl _)
       rw [List.nil_append, hfq] at hO2
       rcases hO2.fown with ⟨-, hnilq⟩ | ⟨g2, c2, rfl, hg2', hc21, hc22, hF2⟩
       ·exfalso
        have h1 := hm.out i hin
        rw [hnilq] at h1
        simp at h1
        omega
       have hMw := hM.out.kept hbW2
       have hqn : (Q[i]?.getD []).length = n1 := hm.out i hin
       rw [hqn] at hc21 ⊢
       have hbA : Below w2.heap.size w2 (w2.alloc (.cells #[.slice (some ⟨g2, 0, none⟩) n1 c2] 40)) := (Below.refl _ _).alloc (Nat.le_refl _) _
       have hMA := hMw.kept hbA
       have hB2 := hB.trans ((hbW2.mono hB.size).trans (hbA.mono (Nat.le_trans hB.size hbW2.size)))
       have hFA := hF2.below hbA
       have hQ2 : Hid (L.map RF.q ++ [Q[i]?.getD []] = Q.take (i + 1)) := Za (by
        rw [hQ.out, List.take_add_one, List.getElem?_eq_getElem (by rw [hl.out]; exact hin)]; rfl)
       have hRA := Zgu w2 (some ⟨g2, 0, none⟩) n1 c2 40
       have hown := hMA.1
       have hll : (L.map RF.rs).length + 1 <= 1000 := by rw [List.length_map]; omega
       have hbs : w.heap.size <= (w2.alloc (.cells #[.slice (some ⟨g2, 0, none⟩) n1 c2] 40)).heap.size := Nat.le_trans hB.size (Nat.le_trans hbW2.size hbA.size)
       replace hMA := Za hMA
       replace hF2 := Za hF2
       clear hk2 hg2 hnil hR hfe hfq hfl hMw hO2)
    | (at_builtin; refine Zcf _ rfl (.tmp 11) (.tmp 18) 22 rfl w.heap.size 40 iS Tryz.underlying22 ki kz0 kz1 kz2 _ _ rfl hown _ _ 1 1 [⟨some ⟨g2, 0, none⟩, n1, c2⟩] rfl hRA rfl hll hbs ?_; intro v5 w5 hO5 hg5 hk5))
   have hnew : ∀ s ∈ L, s.g ≠ g2 := fun s hs => by have := hlt.out s hs; omega
   have hM5 := hMA.out.snoc hne (r := ⟨g2, c2, Q[i]?.getD []⟩) ⟨hFA, by rw [hqn]; exact hc21, hc22⟩ (Nat.le_trans hB.size hg2') hnew (by simp only [RF.rs, hqn]; exact hO5) hg5 hk5
   have hB5 := hB2.grown hg5 hbs (fun k hk => hown.row_ge k hk)
   replace hM5 := Za hM5
   go_roundg (n - (i + 1))
   case measure => omega
   case rel => exact ⟨i + 1, _, by omega, by go_num, hM5.out, Za (by rw [List.map_append]; exact hQ2.out), hB5⟩
end Go.Proofs.YtigdclhagmnopaaGreat
