/- Package linear: wider. The reference of linear: echelon. -/
import Derived.Lib.SlBuf
import Derived.Test.YtigdclhagmnopaaGreatZm27
set_option maxRecDepth 100000
set_option maxHeartbeats 8000000
set_option linter.unusedSimpArgs false
set_option linter.unusedVariables false
namespace Go.Proofs.YtigdclhagmnopaaGreat
open Go.RowKit
attribute [local go_sem] Zh
theorem Zo4 (k : Nat) : List.replicate k (Value.slice none 0 0) = Zam (List.replicate k Zbe) := by
 rw [Zb4, List.map_replicate]; rfl
theorem Zri {P : Program} (t e : TypeId) {i : TypeInfo} (ht : P.underlying t = some (.slice e)) (hi : P.info? e = some i) (hz : i.zero = some (.slice none 0 0)) (hs : i.size = 1) (hb : i.bytes = 24)
    (x : Int) (n : Nat) (hx : x = n) (hn : n <= 1000000000000) (W : World) :
    (Instr.makeSlice t (.int .i64 x) (.int .i64 x)).run P W = .ok (.slice (some ⟨W.heap.size, 0, none⟩) n n) (W.alloc (.cells (Z2 (List.replicate n Zbe)) e)) := by
 subst hx
 have hr := run_make (P := P) W t e i _ ht hi hz .i64 .i64 n n (by omega) (by omega) (by rw [hb]; omega) (by omega)
 simp only [Int.toNat_natCast] at hr
 rw [hr, hs, Nat.mul_one]
 have : madeCells (Value.slice none 0 0).cells n = Z2 (List.replicate n Zbe) := by
  apply Array.toList_inj.1
  show (madeCells #[.slice none 0 0] n).toList = Zam (List.replicate n Zbe)
  rw [<- Zo4]
  apply List.ext_getElem?
  intro j
  unfold madeCells
  by_cases h : j < n
  ·simp [h, Nat.mod_one]
  ·simp [h]
 rw [this]
section
variable {P : Program} (w : World)
end
theorem MatB.mfl {tS tF : TypeId} {w : World} {go n c : Nat} {L : List RF} (h : MatB tS tF w go L) (hl : L.length = n) (hc : n <= c) (hm : c <= maxLen) : MFL w (some ⟨go, 0, none⟩) n c (L.map RF.q) := by
 refine ⟨by rw [List.length_map, hl], hc, hm, fun _ => ⟨go, 0, rfl, fun k q hq => ?_⟩⟩
 rw [List.getElem?_map] at hq
 obtain ⟨r, hr, rfl⟩ := Option.map_eq_some_iff.1 hq
 have h1 := (h.cell hr).1
 obtain ⟨h2, h3, h4⟩ := h.row hr
 exact ⟨_, _, _, by rw [Nat.zero_add]; exact h1, h2.fl h3 h4⟩
theorem Zpg {α : Type} (l : List α) (i : Nat) : Zv l i i = l := by
 apply List.ext_getElem?
 intro j
 unfold Zv
 cases h : l[i]? with
 | none => rfl
 | some x =>
  have hi := (List.getElem?_eq_some_iff.1 h).1
  simp only
  rw [List.getElem?_set, List.getElem?_set, List.length_set]
  by_cases hij : i = j
  ·subst hij; rw [if_pos rfl, if_pos hi, h]
  ·rw [if_neg hij, if_neg hij]
theorem okR_bd {C D m f c r : Nat} {R : List (List Rat)} (h : okR C D m f c r R) : BdR C D m R := by
 cases f with
 | zero => exact h
 | succ f => exact h.1
theorem BdR.smN {m : Nat} {R : List (List Rat)} (h : BdR (pw 200) (pw 200) m R) (i j : Nat) : SmN 200 200 (Zo R i j) := ⟨(h.2 i j).1, (h.2 i j).2⟩
theorem Zkr {f c r : Nat} {R : List (List Rat)} {ng : Bool} (h : r = R.length) : Z3 f c r R ng = (R, r, ng) := by
 cases f with
 | zero => rfl
 | succ f => unfold Z3; rw [if_pos h]
theorem Zky {f c r q : Nat} {R : List (List Rat)} {ng : Bool} (h : r ≠ R.length) (hq : Zau (fun i => Zo R i c == 0) R.length R.length r = q) (hn : q = R.length) : Z3 (f + 1) c r R ng = Z3 f (c + 1) r R ng := by
 show (if r = R.length then _ else _) = _
 rw [if_neg h, hq, if_pos hn]
theorem Zk1 {f c r q : Nat} {R : List (List Rat)} {ng : Bool} (h : r ≠ R.length) (hq : Zau (fun i => Zo R i c == 0) R.length R.length r = q) (hn : q ≠ R.length) : Z3 (f + 1) c r R ng = Z3 f (c + 1) (r + 1) (Zbl (Zv R q r) r c) (ng != decide (q ≠ r)) := by
 show (if r = R.length then _ else _) = _
 rw [if_neg h, hq, if_neg hn]
theorem Zn4 {C D m f c r q : Nat} {R : List (List Rat)} (h : okR C D m (f + 1) c r R) (h0 : r ≠ R.length) (hq : Zau (fun i => Zo R i c == 0) R.length R.length r = q) (hn : q = R.length) : okR C D m f (c + 1) r R := by
 rcases h.2 with h1 | h1
 ·exact absurd h1 h0
 ·exact h1.1 (by rw [hq]; exact hn)
theorem Zn6 {C D m f c r q : Nat} {R : List (List Rat)} (h : okR C D m (f + 1) c r R) (h0 : r ≠ R.length) (hq : Zau (fun i => Zo R i c == 0) R.length R.length r = q) (hn : q ≠ R.length) : okR C D m f (c + 1) (r + 1) (Zbl (Zv R q r) r c) := by
 rcases h.2 with h1 | h1
 ·exact absurd h1 h0
 ·have := h1.2 (by rw [hq]; exact hn)
  rw [hq] at this; exact this
theorem Zrn (k r : Nat) : swI k r r = k := by unfold swI; split; assumption; rw [if_pos rfl]
theorem Zja (go n cap : Nat) (L : List RF) (m cols : Nat) (w : World) (hM : MatB 40 45 w go L) (hn : L.length = n) (hn0 : 0 < n) (hn9 : n <= 900) (hcap : n <= cap) (hcm : cap <= maxLen) (hcs : cols <= m) (hm9 : m <= 900)
    (hok : okR (pw 200) (pw 200) m cols 0 0 (L.map RF.q)) :
    Calls Tryz.prog 52 #[.slice (some ⟨go, 0, none⟩) n cap, .int .i64 cols] w fun e w' => ∃ L2, e = .returned (.tuple #[.int .i64 ((Z3 cols 0 0 (L.map RF.q) false).2.1 : Nat), .bool (Z3 cols 0 0 (L.map RF.q) false).2.2]) /\
     L2.length = n /\ (∀ g ∈ L2.map RF.g, g ∈ L.map RF.g) /\ L2.map RF.q = (Z3 cols 0 0 (L.map RF.q) false).1 /\ MatB 40 45 w' go L2 /\ Kept (fun g => g = go \/ g ∈ L.map RF.g) w w' := by
 have hmx : Tryz.prog.follows .mixedOrders = true := by kernel_rfl
 have hcm0 := hcm
 unfold maxLen at hcm
 obtain ⟨FIN, hFIN⟩ : ∃ X, Z3 cols 0 0 (L.map RF.q) false = X := ⟨_, rfl⟩
 rw [hFIN]
 replace hFIN := Za hFIN
 replace hok := Za hok
 replace hn := Za hn
 go_enter Tryz.func52, Tryz.ntmps52
 go_wp2_with fail
 go_loopg [8, 6, 7] cols (fun k cv rv nv wr => ∃ (c r : Nat) (ng : Bool) (L2 : List RF), c + k = cols /\ cv = .int .i64 c /\ rv = .int .i64 r /\ nv = .bool ng /\ r <= n /\ MatB 40 45 wr go L2 /\ Hid (L2.length = n) /\ Hid (∀ g ∈ L2.map RF.g, g ∈ L.map RF.g) /\ Hid (Z3 k c r (L2.map RF.q) ng = FIN) /\ Hid (okR (pw 200) (pw 200) m k c r (L2.map RF.q)) /\ Kept (fun g => g = go \/ g ∈ L.map RF.g) w wr)
 case atStart => exact ⟨0, 0, false, L, by omega, rfl, rfl, rfl, Nat.zero_le _, hM, hn, Za (fun g h => h), hFIN, hok, Kept.refl _ _⟩
 case round =>
  clear hM hFIN hok hn
  obtain ⟨c, r, ng, L2, hck, rfl, rfl, rfl, hrn, hM, hl2, hg2, hE, hok, hK⟩ := hrel
  obtain ⟨wA, rfl⟩ : ∃ wo : World, wo = wr := ⟨_, rfl⟩
  have hR2 : Hid ((L2.map RF.q).length = n) := Za (by rw [List.length_map]; exact hl2.out)
  cases gk with
  | zero =>
   obtain rfl : c = cols := by omega
   have t1 : decide ((c : Int) < (c : Int)) = false := by simp
   replace hM := Za hM
   replace hK := Za hK
   go_wp2_with fail
   go_returns
   have hE2 := hE.out
   refine ⟨L2, by rw [<- hE2]; rfl, hl2.out, hg2.out, by rw [<- hE2]; rfl, hM.out, hK.out⟩
  | succ j =>
   obtain rfl : c = cols - (j + 1) := by omega
   obtain ⟨c, hc⟩ : ∃ c, c = cols - (j + 1) := ⟨_, rfl⟩
   rw [<- hc] at hE hok hck ⊢
   have hccols : c < cols := by omega
   have t1 : decide ((c : Int) < (cols : Int)) = true := decide_eq_true (by omega)
   by_cases hr : r = n
   case pos =>
    have t2 : decide ((r : Int) < (n : Int)) = false := decide_eq_false (by omega)
    have t2n : decide (r < n) = false := decide_eq_false (by omega)
    have hE2 : (L2.map RF.q, r, ng) = FIN := by rw [<- hE.out]; exact (Zkr (by rw [hR2.out]; exact hr)).symm
    replace hE2 := Za hE2
    replace hr := Za hr
    replace hM := Za hM
    replace hK := Za hK
    replace hc := Za hc
    go_wp2_with fail
    go_returns
    have hE3 := hE2.out
    refine ⟨L2, by rw [<- hE3]; rfl, hl2.out, hg2.out, by rw [<- hE3], hM.out, hK.out⟩
   have hrn' : r < n := by omega
   have t2 : decide ((r : Int) < (n : Int)) = true := decide_eq_true (by omega)
   have hbd := Za (okR_bd hok.out)
   replace hr := Za hr
   replace hc := Za hc
   replace hM := Za hM
   replace hK := Za hK
   go_wp2_with fail
   go_loopg [9] (n - r) (fun k av wr => ∃ q : Nat, q + k = n /\ av = .int .i64 q /\ r <= q /\ Hid (∀ i, r <= i -> i < q -> Zo (L2.map RF.q) i c = 0) /\ wr = wA)
   case atStart => exact ⟨r, by omega, rfl, Nat.le_refl _, Za (fun i h1 h2 => by omega), rfl⟩
   case round =>
    obtain ⟨q, hqk, rfl, hrq, hzq, rfl⟩ := hrel
    cases gk with
    | zero =>
     obtain rfl : q = n := by omega
     have t3 : decide ((q : Int) < (q : Int)) = false := by simp
     have hp : Zau (fun i => Zo (L2.map RF.q) i c == 0) (L2.map RF.q).length (L2.map RF.q).length r = q := by
      rw [hR2.out]
      exact Zgl (by omega) hrq (Nat.le_refl _) (fun i h1 h2 => by rw [hzq.out i h1 h2]; rfl) (fun h => by omega)
     have hE2 := Za ((Zky (f := j) (ng := ng) (by rw [hR2.out]; exact hr.out) hp hR2.out.symm).symm.trans hE.out)
     have hok2 := Za (Zn4 hok.out (by rw [hR2.out]; exact hr.out) hp hR2.out.symm)
     replace hp := Za hp
     go_wp2_with fail
     go_roundg j
     case measure => omega
     case rel => exact ⟨c + 1, r, ng, L2, by omega, by go_num, rfl, rfl, by omega, hM.out, hl2, hg2, hE2, hok2, hK.out⟩
    | succ gk' =>
     obtain rfl : gk' = n - (q + 1) := by omega
     have hqn : q < n := by omega
     have t3 : decide ((q : Int) < (n : Int)) = true := decide_eq_true (by omega)
     have bq : (q : Int) < (n : Int) := by omega
     obtain ⟨x, hx⟩ := Zax (L := L2) (i := q) (by rw [hl2.out]; exact hqn)
     have hlx : x.q.length = m := by
      have := hbd.out.1 q (by rw [hR2.out]; exact hqn)
      rw [List.getElem?_map, hx] at this
      exact this
     obtain ⟨cx, zx⟩ := hM.out.cell hx
     obtain ⟨fx, kx1, kx2⟩ := hM.out.row hx
     rw [hlx] at cx kx1
     unfold maxLen at kx2
     have bc : (c : Int) < (m : Int) := by omega
     obtain ⟨n1, A1, k1, c1, m1, B1, j1, d1, p0, p1, p2, p3, hf1⟩ := fx.at_ (i := c) (by rw [hlx]; omega)
     have hk1 := hf1.1.2.1
     have hex : Zo (L2.map RF.q) q c = x.q[c]?.getD 0 := by rw [Zfy, Zfc hx]
     rw [<- hex] at hf1
     by_cases hz : k1 = 0
     case pos =>
      have t4 : ((k1 : Int) == 0) = true := by simp [hz]
      have t4' : decide (k1 = 0) = true := by simpa using hz
      have hq0 := hf1.zero_iff.1 hz
      have hzq2 : Hid (∀ i, r <= i -> i < q + 1 -> Zo (L2.map RF.q) i c = 0) := Za (fun i h1 h2 => by
       by_cases hi : i = q
       ·rw [hi]; exact hq0
       ·exact hzq.out i h1 (by omega))
      replace hz := Za hz
      clear hq0 hf1 fx zx p0 p2 p3 hex hlx hx
      go_wp2_with fail
      go_roundg (n - (q + 1))
      case measure => omega
      case rel => exact ⟨q + 1, by omega, by go_num, by omega, hzq2, rfl⟩
     have t4 : ((k1 : Int) == 0) = false := by simp; omega
     have t4' : decide (k1 = 0) = false := by simpa using hz
     have hnz : Zo (L2.map RF.q) q c ≠ 0 := fun e => hz (hf1.zero_iff.2 e)
     have t5 : ((q : Int) == (n : Int)) = false := beq_eq_false_iff_ne.2 (by omega)
     have t5' : decide (q = n) = false := decide_eq_false (by omega)
     have hp : Zau (fun i => Zo (L2.map RF.q) i c == 0) (L2.map RF.q).length (L2.map RF.q).length r = q := by
      rw [hR2.out]
      exact Zgl (by omega) hrq (by omega) (fun i h1 h2 => by rw [hzq.out i h1 h2]; rfl) (fun _ => by simpa using hnz)
     have hE2 := Za ((Zk1 (f := j) (ng := ng) (by rw [hR2.out]; exact hr.out) hp (by rw [hR2.out]; omega)).symm.trans hE.out)
     have hok2 := Za (Zn6 hok.out (by rw [hR2.out]; exact hr.out) hp (by rw [hR2.out]; omega))
     obtain ⟨y, hy⟩ := Zax (L := L2) (i := r) (by rw [hl2.out]; exact hrn')
     have hly : y.q.length = m := by
      have := hbd.out.1 r (by rw [hR2.out]; exact hrn')
      rw [List.getElem?_map, hy] at this
      exact this
     obtain ⟨cy, zy⟩ := hM.out.cell hy
     rw [hly] at cy
     have br : (r : Int) < (n : Int) := by omega
     have hsq : Hid ((Zv L2 q r).map RF.q = Zv (L2.map RF.q) q r) := Za (Zd6 _ _ _ _)
     have hsl : Hid ((Zv L2 q r).length = n) := Za (by rw [Zc2]; exact hl2.out)
     have hsm : ∀ x ∈ Zv L2 q r, x.q.length = m := fun x hx => by
      have h1 := Zcy _ _ _ _ hx
      obtain ⟨i, hi, e⟩ := List.getElem_of_mem h1
      have := hbd.out.1 i (by rw [List.length_map]; exact hi)
      rw [List.getElem?_map, List.getElem?_eq_getElem hi, e] at this
      exact this
     have hsp : Zo ((Zv L2 q r).map RF.q) r c ≠ 0 := by
      rw [hsq.out, Zd5 (by rw [hR2.out]; exact hqn) (by rw [hR2.out]; exact hrn'), Zrn]; exact hnz
     have hsB : ∀ i j, SmN 200 200 (Zo ((Zv L2 q r).map RF.q) i j) := fun i j => by
      rw [hsq.out, Zd5 (by rw [hR2.out]; exact hqn) (by rw [hR2.out]; exact hrn')]; exact hbd.out.smN _ _
     have hsg : Hid (∀ g ∈ (Zv L2 q r).map RF.g, g ∈ L.map RF.g) := Za (fun g hg => by
      rw [Zd6] at hg
      exact hg2.out g (Zcy _ _ _ _ hg))
     have hH := Za (fun (W1 : World) (h1 : MatB 40 45 W1 go (Zv L2 q r)) => Zs6 go n cap (Zv L2 q r) m r c W1 h1 hsl.out (by omega) hcap hcm0 hsm (by omega) hrn' (by omega) hsp hsB)
     replace hz := Za hz
     replace hnz := Za hnz
     replace hp := Za hp
     clear hsm hsp hsB fx hf1 hex
     by_cases hqr : q = r
     case pos =>
      have t6 : ((q : Int) == (r : Int)) = true := beq_iff_eq.2 (by omega)
      have t6' : ((q : Int) != (r : Int)) = false := by rw [bne, t6]; rfl
      have t7 : decide (q = r) = true := decide_eq_true hqr
      have hsw : Zv L2 q r = L2 := by rw [hqr]; exact Zpg _ _
      have hME : MatB 40 45 wr go (Zv L2 q r) := by rw [hsw]; exact hM.out
      have hng : (ng != decide (q ≠ r)) = ng := by rw [decide_eq_false (by omega : ¬ q ≠ r)]; cases ng <;> rfl
      replace hng := Za hng
      replace hqr := Za hqr
      replace hME := Za hME
      clear hsw
      go_wp2_with fail
      clear cx zx cy zy p0 p1 p2 p3
      refine (hH.out wr hME.out).mono ?_
      rintro e w5 ⟨rfl, L4, hl4, hg4, hc4, hq4, hM4, hK4⟩
      rw [hsq.out] at hq4
      have hE3 := hE2.out
      have hok3 := hok2.out
      rw [<- hq4] at hE3 hok3
      have hg5 : Hid (∀ g ∈ L4.map RF.g, g ∈ L.map RF.g) := Za (fun g hg => hsg.out g (by rw [<- hg4]; exact hg))
      have hK5 : Hid (Kept (fun g => g = go \/ g ∈ L.map RF.g) w w5) := Za (hK.out.trans (hK4.mono (fun k _ hk => .inr (hsg.out k hk))))
      replace hE3 := Za hE3
      replace hok3 := Za hok3
      replace hM4 := Za hM4
      clear hK4
      go_wp2_with fail
      go_roundg j
      case measure => omega
      case rel => exact ⟨c + 1, r + 1, _, L4, by omega, by go_num, by go_num, rfl, by omega, hM4.out, Za hl4, hg5, Za (by have h := hE3.out; rw [hng.out] at h; exact h), hok3, hK5.out⟩
     have t6 : ((q : Int) == (r : Int)) = false := beq_eq_false_iff_ne.2 (by omega)
     have t6' : ((q : Int) != (r : Int)) = true := by rw [bne, t6]; rfl
     have t7 : decide (q = r) = false := decide_eq_false hqr
     have hng : (ng != decide (q ≠ r)) = !ng := by rw [decide_eq_true (by omega : q ≠ r)]; cases ng <;> rfl
     obtain ⟨V, hV⟩ : ∃ V, ((wr.setCell ⟨go, q, none⟩ (.slice (some ⟨y.g, 0, none⟩) m y.c)).setCell ⟨go, r, none⟩ (.slice (some ⟨x.g, 0, none⟩) m x.c)).drew = V := ⟨_, rfl⟩
     have hMV : MatB 40 45 V go (Zv L2 q r) := by
      have := hM.out.swap hx hy
      rw [hlx, hly] at this
      rw [<- hV]; exact this.below (Ze (Below.refl _ _) 1)
     have hKV : Kept (fun g => g = go \/ g ∈ L.map RF.g) w V := by
      rw [<- hV]
      exact ((hK.out.set_ (p := ⟨go, q, none⟩) (.inl (.inl rfl)) _).set_ (p := ⟨go, r, none⟩) (.inl (.inl rfl)) _).drewN 1
     replace hng := Za hng
     replace hqr := Za hqr
     replace hMV := Za hMV
     replace hKV := Za hKV
     obtain ⟨⟨zs, hbk⟩, -, -⟩ := hM.out
     have hbk1 : Blk (wr.setCell ⟨go, q, none⟩ (.slice (some ⟨y.g, 0, none⟩) m y.c)) go 40 _ := Blk.set_ (w := wr) hbk q (.slice (some ⟨y.g, 0, none⟩) m y.c)
     have g3 : (wr.setCell ⟨go, q, none⟩ (.slice (some ⟨y.g, 0, none⟩) m y.c)).cell? ⟨go, r, none⟩ = some (.slice (some ⟨y.g, 0, none⟩) m y.c) := by
      rw [hbk1.cell, Array.getElem?_setIfInBounds, if_neg hqr.out, <- hbk.cell]; exact cy
     have z3 := hbk1.frozen r
     replace hbk1 := Za hbk1
     replace hbk := Za hbk
     go_wp2_with fail
     clear p0 p1 p2 p3
     have hS0 : wr.drew.cell? ⟨go, q, none⟩ = some (.slice (some ⟨x.g, 0, none⟩) m x.c) /\ wr.drew.cell? ⟨go, r, none⟩ = some (.slice (some ⟨y.g, 0, none⟩) m y.c) := ⟨cx, cy⟩
     refine Zah [13, 15] (fun wx => wx.cell? ⟨go, q, none⟩ = some (.slice (some ⟨x.g, 0, none⟩) m x.c) /\ wx.cell? ⟨go, r, none⟩ = some (.slice (some ⟨y.g, 0, none⟩) m y.c)) hmx hS0 (fun hxs => ?_)
     refine Zhz 2 [0, 1] rfl (by kernel_rfl) hS0 ?_
     iterate 2 (refine tk1 (v := ?_) rfl (Or.inl ⟨by kernel_rfl, ?_⟩) ?_; rotate_left; (· intro W2 hSw; (try dsimp only at hSw); go_simp; try with_reducible rfl); try simp only [Act.put, Ze7, Ze8, Zfh, putG_a, putG_s, putG_z])
     refine tk0 ?_
     refine Zfo 2 [2, 3] rfl (by kernel_rfl) hS0 ?_
     iterate 2 (refine tk1 (v := ?_) rfl (Or.inl ⟨by kernel_rfl, ?_⟩) ?_; rotate_left; (· intro W2 _; go_simp; try with_reducible rfl); try simp only [Act.put, Ze7, Ze8, Zfh, putG_a, putG_s, putG_z])
     refine tk0 ?_
     refine Zhz 4 [4, 5, 6, 7] rfl (by kernel_rfl) hS0 ?_
     iterate 4 (refine tk1 (v := ?_) rfl (Or.inl ⟨by kernel_rfl, ?_⟩) ?_; rotate_left; (· intro W2 hSw; (try dsimp only at hSw); go_simp; try with_reducible rfl); try simp only [Act.put, Ze7, Ze8, Zfh, putG_a, putG_s, putG_z])
     refine tk0 ?_
     refine Zfo 3 [8, 9, 10] rfl (by kernel_rfl) hS0 ?_
     iterate 3 (refine tk1 (v := ?_) rfl (Or.inl ⟨by kernel_rfl, ?_⟩) ?_; rotate_left; (· intro W2 _; go_simp; try with_reducible rfl); try simp only [Act.put, Ze7, Ze8, Zfh, putG_a, putG_s, putG_z])
     refine tk0 ?_
     refine Zhz 1 [11] rfl (by kernel_rfl) hS0 ?_
     (refine tk1 (v := ?_) rfl (Or.inl ⟨by kernel_rfl, ?_⟩) ?_; rotate_left; (· intro W2 hSw; (try dsimp only at hSw); go_simp; try with_reducible rfl); try simp only [Act.put, Ze7, Ze8, Zfh, putG_a, putG_s, putG_z])
     refine tk0 ?_
     refine Zfo 1 [12] rfl (by kernel_rfl) hS0 ?_
     (refine tk1 (v := ?_) rfl (Or.inl ⟨by kernel_rfl, ?_⟩) ?_; rotate_left; (· intro W2 _; go_simp; try with_reducible rfl); try simp only [Act.put, Ze7, Ze8, Zfh, putG_a, putG_s, putG_z])
     refine tk0 ?_
     have z1 : wr.drew.frozen? ⟨go, q, none⟩ = false := zx
     have z2 : wr.drew.frozen? ⟨go, r, none⟩ = false := zy
     have g1 : wr.drew.cell? ⟨go, q, none⟩ = some (.slice (some ⟨x.g, 0, none⟩) m x.c) := cx
     have g2 : wr.drew.cell? ⟨go, r, none⟩ = some (.slice (some ⟨y.g, 0, none⟩) m y.c) := cy
     refine Zn (i := 13) rfl (by kernel_rfl) (by kernel_rfl) (fun K hK => ?_)
     go_simp
     refine hK.out _ _ ?_
     clear hK K
     try simp only [Act.put, Ze7, Ze8, Zfh]
     refine Zf (i := 14) (v := ?v14) rfl (by kernel_rfl) (by kernel_rfl) (by kernel_rfl) (by kernel_rfl) (Or.inl ⟨by kernel_rfl, ?hy14⟩) (fun hno => absurd hno (by decide)) ?rest14
     case hy14 => (intro W2 _; go_simp; try with_reducible rfl)
     try simp only [Act.put, Ze7, Ze8, Zfh, putG_a, putG_s, putG_z]
     refine Zn (i := 15) rfl (by kernel_rfl) (by kernel_rfl) (fun K hK => ?_)
     go_simp
     (try rw [hV])
     refine hK.out _ _ ?_
     clear hK K
     try simp only [Act.put, Ze7, Ze8, Zfh]
     refine Zl (by kernel_rfl) ?_ _
     refine OnlyNormal.normal ?_
     clear hV g1 g2 g3 z1 z2 z3 hS0 hxs
     go_wp2_with fail
     refine (hH.out V hMV.out).mono ?_
     rintro e w5 ⟨rfl, L4, hl4, hg4, hc4, hq4, hM4, hK4⟩
     rw [hsq.out] at hq4
     have hE3 := hE2.out
     have hok3 := hok2.out
     rw [<- hq4] at hE3 hok3
     have hg5 : Hid (∀ g ∈ L4.map RF.g, g ∈ L.map RF.g) := Za (fun g hg => hsg.out g (by rw [<- hg4]; exact hg))
     have hK5 : Hid (Kept (fun g => g = go \/ g ∈ L.map RF.g) w w5) := Za (hKV.out.trans (hK4.mono (fun k _ hk => .inr (hsg.out k hk))))
     replace hE3 := Za hE3
     replace hok3 := Za hok3
     replace hM4 := Za hM4
     clear hK4
     go_wp2_with fail
     go_roundg j
     case measure => omega
     case rel => exact ⟨c + 1, r + 1, _, L4, by omega, by go_num, by go_num, rfl, by omega, hM4.out, Za hl4, hg5, Za (by have h := hE3.out; rw [hng.out] at h; exact h), hok3, hK5.out⟩
end Go.Proofs.YtigdclhagmnopaaGreat
