/- Solving a triangular system; the reference's solved. -/
import Derived.Test.YtigdclhagmnopaaGreatZm34
set_option maxRecDepth 100000
set_option maxHeartbeats 8000000
set_option linter.unusedSimpArgs false
set_option linter.unusedVariables false
namespace Go.Proofs.YtigdclhagmnopaaGreat
open Go.RowKit
attribute [local go_sem] Zh
def partX (E X : Nat -> Nat -> Rat) (n m r kk : Nat) (Q : List (List Rat)) : Prop := ∀ a b, a < n -> b < m -> Zo Q a b = if n <= b /\ (r <= a \/ a + 1 = r /\ b < kk) then X a b else E a b
theorem partX.start {E X : Nat -> Nat -> Rat} {n m : Nat} {Q : List (List Rat)} (h : ∀ a b, Zo Q a b = E a b) : partX E X n m n n Q := fun a b ha hb => by
 rw [h, if_neg (by omega)]
theorem partX.down {E X : Nat -> Nat -> Rat} {n m r : Nat} {Q : List (List Rat)} (h : partX E X n m (r + 1) m Q) : partX E X n m r n Q := fun a b ha hb => by
 rw [h a b ha hb]
 by_cases h1 : n <= b /\ (r + 1 <= a \/ a + 1 = r + 1 /\ b < m)
 ·rw [if_pos h1, if_pos (by omega)]
 ·rw [if_neg h1, if_neg (by omega)]
theorem Zuc {Q : List (List Rat)} {i k : Nat} {row : List Rat} {x : Rat} (hi : i < Q.length) (hk : k < row.length) (hr : Q[i]?.getD [] = row) (a b : Nat) : Zo (Q.set i (row.set k x)) a b = if a = i /\ b = k then x else Zo Q a b := by
 unfold Zo
 rw [List.getElem?_set]
 by_cases ha : i = a
 ·subst ha
  rw [if_pos rfl, if_pos hi, Option.getD_some, List.getElem?_set]
  by_cases hb : k = b
  ·subst hb; rw [if_pos rfl, if_pos hk, if_pos ⟨rfl, rfl⟩]; rfl
  ·rw [if_neg hb, if_neg (by omega), hr]
 ·rw [if_neg ha, if_neg (by omega)]
theorem partX.step {E X : Nat -> Nat -> Rat} {n m r kk : Nat} {Q Q2 : List (List Rat)} (h : partX E X n m (r + 1) kk Q) (hn : n <= kk) (hs : ∀ a b, Zo Q2 a b = if a = r /\ b = kk then X r kk else Zo Q a b) : partX E X n m (r + 1) (kk + 1) Q2 := fun a b ha hb => by
 rw [hs]
 by_cases h1 : a = r /\ b = kk
 ·rw [if_pos h1, if_pos (by omega), h1.1, h1.2]
 ·rw [if_neg h1, h a b ha hb]
  by_cases h2 : n <= b /\ (r + 1 <= a \/ a + 1 = r + 1 /\ b < kk)
  ·rw [if_pos h2, if_pos (by omega)]
  ·rw [if_neg h2, if_neg (by omega)]
theorem partX.done {E X : Nat -> Nat -> Rat} {n m : Nat} {Q : List (List Rat)} (h : partX E X n m 0 n Q) (hl : Q.length = n) (hrow : ∀ i, i < n -> (Q[i]?.getD []).length = m) (hm : n <= m) : Q.map (List.drop n) = Zdj X n m := by
 unfold Zdj
 apply List.ext_getElem?
 intro i
 by_cases hi : i < n
 ·have hq := List.getElem?_eq_getElem (l := Q) (i := i) (by omega)
  have hr := hrow i hi
  rw [List.getElem?_map, List.getElem?_map, hq, List.getElem?_range hi]
  rw [hq] at hr
  simp only [Option.map_some, Option.getD_some] at hr ⊢
  congr 1
  apply List.ext_getElem?
  intro c
  rw [List.getElem?_drop, List.getElem?_map]
  by_cases hc : c < m - n
  ·have := h i (n + c) hi (by omega)
   rw [if_pos (by omega)] at this
   unfold Zo at this
   rw [hq, Option.getD_some] at this
   rw [List.getElem?_range hc, Option.map_some, <- this, List.getElem?_eq_getElem (by omega)]; rfl
  ·rw [List.getElem?_eq_none (by omega), List.getElem?_eq_none (l := List.range (m - n)) (by simp; omega)]; rfl
 ·rw [List.getElem?_map, List.getElem?_map, List.getElem?_eq_none (l := Q) (by omega), List.getElem?_eq_none (l := List.range n) (by simp; omega)]; rfl
theorem FL.drop {w : World} {A : Option Addr} {n c : Nat} {qs : List Rat} (h : FL w A n c qs) {g o : Nat} (hA : A = some ⟨g, o, none⟩) {k : Nat} (hk : k <= n) : FL w (some ⟨g, o + k * 4, none⟩) (n - k) (c - k) (qs.drop k) := by
 obtain ⟨es, h1, h2, h3, h4, rfl, h5⟩ := h
 refine ⟨es.drop k, by rw [List.length_drop]; omega, by omega, by omega, fun e he => h4 e (List.mem_of_mem_drop he), by rw [List.map_drop], fun hn => ?_⟩
 obtain ⟨g', o', e1, hc⟩ := h5 (by omega)
 rw [hA] at e1
 obtain ⟨rfl, rfl⟩ : g = g' /\ o = o' := by cases e1; exact ⟨rfl, rfl⟩
 refine ⟨g, o + k * 4, rfl, fun j e he => ?_⟩
 rw [List.getElem?_drop] at he
 have := hc (k + j) e he
 simp only [Nat.add_assoc] at this ⊢
 rw [show (k + j) * 4 = k * 4 + j * 4 by omega] at this
 simp only [Nat.add_assoc] at this
 exact this
theorem Kept.andU {G H : Nat -> Prop} {w W V : World} (h1 : Kept G w W) (h2 : Kept H W V) (hG : ∀ k, k < w.heap.size -> H k -> G k) : Kept G w V :=
 ⟨h2.os.trans h1.os, h2.tape.trans h1.tape, h2.output.trans h1.output, Nat.le_trans h1.size h2.size, fun k hk hg => (h2.block k (Nat.lt_of_lt_of_le hk h1.size) (fun h => hg (hG k hk h))).trans (h1.block k hk hg)⟩
theorem Z7 (a : Bool) (A : Option Addr) (n c : Nat) (b : Bool) (B : Option Addr) (m d : Nat) : NoLimb #[.bool a, .slice A n c, .bool b, .slice B m d] := fun i x => by
 match i with
 | 0 => simp
 | 1 => simp
 | 2 => simp
 | 3 => simp
 | i + 4 => simp
theorem MatO.base {tS tF : TypeId} {w : World} {b b' : Nat} {v : Value} {L : List RF} (h : MatO tS tF w b v L) (hb : b' <= b) : MatO tS tF w b' v L := by
 refine ⟨?_, fun r hr => ⟨(h.2.1 r hr).1, Nat.le_trans hb (h.2.1 r hr).2⟩, h.2.2⟩
 rcases h.1 with h1 | ⟨g, sp, h1, h2, h3, h4⟩
 ·exact .inl h1
 ·exact .inr ⟨g, sp, h1, Nat.le_trans hb h2, h3, h4⟩
theorem Zps (A : Option Addr) (n c m : Nat) (Q : List (List Rat)) (w : World) (h : MFL w A n c Q) (hn0 : 0 < n) (hn9 : n <= 900) (hnm : n <= m) (hm9 : m <= 900) (hm : ∀ i, i < n -> (Q[i]?.getD []).length = m) (hok : okR (pw 200) (pw 200) m n 0 0 Q) (hrk : (Z3 n 0 0 Q false).2.1 < n) :
    Calls Tryz.prog 70 #[.slice A n c, .int .i64 n] w fun e w' => e = .returned (.tuple #[.slice none 0 0, .bool false]) /\ Below w.heap.size w w' := by
 have hmx : Tryz.prog.follows .mixedOrders = true := by kernel_rfl
 have hne : (40 : TypeId) ≠ 45 := by decide
 have hQl := Za h.1
 go_enter Tryz.func70, Tryz.ntmps70
 go_wp2_with fail
 refine (Zjn A n c m Q w h (by omega) hm (by omega) (by omega)).mono ?_
 rintro e w1 ⟨v, L, rfl, hb1, hMO, hLq⟩
 have hLl : L.length = n := by rw [<- hQl.out, <- hLq, List.length_map]
 obtain ⟨go, cap, rfl, hc1, hc2, hgo, hM, hgs⟩ := hMO.mat hne (fun e => by rw [e] at hLl; simp at hLl; omega)
 rw [hLl] at hc1 ⊢
 replace hLl := Za hLl
 clear hMO h
 unfold maxLen at hc2
 go_wp2_with fail
 refine (Zja go n cap L m n w1 hM hLl.out hn0 (by omega) hc1 (by unfold maxLen; exact hc2) hnm (by omega) (by rw [hLq]; exact hok)).mono ?_
 rw [hLq]
 rintro e w2 ⟨L2, rfl, hl2, hg2, hq2, hM2, hK2⟩
 have hgG : ∀ k, (k = go \/ k ∈ L.map RF.g) -> w.heap.size <= k := fun k hk => by
  rcases hk with rfl | hk
  ·exact hgo
  ·obtain ⟨r, hr, rfl⟩ := List.mem_map.1 hk
   exact hgs r hr
 have hB2 : Below w.heap.size w w2 := hb1.trans (hK2.to_below hgG hb1.size)
 obtain ⟨rk, hrk2⟩ : ∃ x, (Z3 n 0 0 Q false).2.1 = x := ⟨_, rfl⟩
 rw [hrk2] at hrk ⊢
 have t1 : decide ((rk : Int) < (n : Int)) = true := decide_eq_true (by omega)
 have t1' : decide (rk < n) = true := decide_eq_true hrk
 replace hrk := Za hrk
 replace hrk2 := Za hrk2
 clear hM hM2 hK2 hgG hb1
 go_wp2_with fail
 go_returns
 exact ⟨rfl, hB2⟩
theorem Zpw (A : Option Addr) (n c m : Nat) (Q : List (List Rat)) (w : World) (h : MFL w A n c Q) (hn0 : 0 < n) (hn9 : n <= 900) (hnm : n < m) (hm9 : m <= 900) (hm : ∀ i, i < n -> (Q[i]?.getD []).length = m) (hok : okR (pw 200) (pw 200) m n 0 0 Q) (hrk : (Z3 n 0 0 Q false).2.1 = n)
    (X : Nat -> Nat -> Rat) (hX : Zf4 (Zo (Z3 n 0 0 Q false).1) X n m) :
    Calls Tryz.prog 70 #[.slice A n c, .int .i64 n] w fun e w' => ∃ v L, e = .returned (.tuple #[v, .bool true]) /\ Below w.heap.size w w' /\ MatO 40 45 w' w.heap.size v L /\ L.map RF.q = Zdj X n m := by
 obtain ⟨iF, hi, hz0, hz1, hz2⟩ := info_parts Zdq
 obtain ⟨iS, ki, kz0, kz1, kz2⟩ := info_parts Zg0
 have hmx : Tryz.prog.follows .mixedOrders = true := by kernel_rfl
 have hne : (40 : TypeId) ≠ 45 := by decide
 have hQl := Za h.1
 go_enter Tryz.func70, Tryz.ntmps70
 go_wp2_with fail
 refine (Zjn A n c m Q w h (by omega) hm (by omega) (by omega)).mono ?_
 rintro e w1 ⟨v, L, rfl, hb1, hMO, hLq⟩
 have hLl : L.length = n := by rw [<- hQl.out, <- hLq, List.length_map]
 obtain ⟨go, cap, rfl, hc1, hc2, hgo, hM, hgs⟩ := hMO.mat hne (fun e => by rw [e] at hLl; simp at hLl; omega)
 rw [hLl] at hc1 ⊢
 replace hLl := Za hLl
 clear hMO h
 unfold maxLen at hc2
 go_wp2_with fail
 refine (Zja go n cap L m n w1 hM hLl.out hn0 (by omega) hc1 (by unfold maxLen; exact hc2) (by omega) (by omega) (by rw [hLq]; exact hok)).mono ?_
 rw [hLq]
 rintro e w2 ⟨L2, rfl, hl2, hg2, hq2, hM2, hK2⟩
 have hgG : ∀ k, (k = go \/ k ∈ L.map RF.g) -> w.heap.size <= k := fun k hk => by
  rcases hk with rfl | hk
  ·exact hgo
  ·obtain ⟨r, hr, rfl⟩ := List.mem_map.1 hk
   exact hgs r hr
 have hB2 : Below w.heap.size w w2 := hb1.trans (hK2.to_below hgG hb1.size)
 rw [hrk]
 have hfin : BdR (pw 200) (pw 200) m (Z3 n 0 0 Q false).1 := Zih n 0 0 Q false hok
 have hQE : Hid (partX (Zo (Z3 n 0 0 Q false).1) X n m n n (L2.map RF.q)) := Za (partX.start (fun a b => by rw [hq2]))
 obtain ⟨E, hE⟩ : ∃ E, Zo (Z3 n 0 0 Q false).1 = E := ⟨_, rfl⟩
 rw [hE] at hX hQE
 have hL2m : Hid (∀ x ∈ L2, x.q.length = m) := Za (fun x hx => by
  obtain ⟨i, hi, e⟩ := List.getElem_of_mem hx
  have := hfin.1 i (by rw [<- hq2, List.length_map]; exact hi)
  rw [<- hq2, List.getElem?_map, List.getElem?_eq_getElem hi, e] at this
  exact this)
 have hgG2 : Hid (∀ k, (k = go \/ k ∈ L2.map RF.g) -> w.heap.size <= k) := Za (fun k hk => by
  rcases hk with rfl | hk
  ·exact hgo
  ·exact hgG k (.inr (hg2 k hk)))
 have hGlt : Hid (∀ k, (k = go \/ k ∈ L2.map RF.g) -> k < w2.heap.size) := Za (fun k hk => by
  obtain ⟨t, cs, hb, -⟩ := hM2.boxes k hk
  exact hb.lt)
 have t1 : decide ((n : Int) < (n : Int)) = false := by simp
 obtain ⟨d1, d2, d3, d4, d5⟩ := hX
 replace d1 := Za d1
 replace d2 := Za d2
 replace d3 := Za d3
 replace d4 := Za d4
 replace d5 := Za d5
 have hrl2 := Za hl2
 replace hB2 := Za hB2
 clear hM hK2 hgG hb1 hg2 hfin hE hq2 hl2 hgs hrk hok
 replace hM2 := Za hM2
 go_wp2_with fail
 go_loopg [9] n (fun k iv wr => ∃ L3 : List RF, iv = .int .i64 ((k : Int) - 1) /\ k <= n /\ MatB 40 45 wr go L3 /\ Hid (L3.length = n) /\ Hid (L3.map RF.g = L2.map RF.g) /\ Hid (∀ x ∈ L3, x.q.length = m) /\ Hid (partX E X n m k n (L3.map RF.q)) /\ Kept (fun k => k = go \/ k ∈ L2.map RF.g) w2 wr)
 case atStart => exact ⟨L2, by go_num, Nat.le_refl _, hM2.out, hrl2, Za rfl, hL2m, hQE, Kept.refl _ _⟩
 case round =>
  clear hM2 hL2m hQE
  obtain ⟨L3, rfl, hkn, hM3, hl3, hg3, hm3, hp3, hK3⟩ := hrel
  cases gk with
  | zero =>
   have t2 : decide ((0 : Int) <= ((0 : Nat) : Int) - 1) = false := by decide
   have t2' : decide ((0 : Int) <= -1) = false := by decide
   have hfinq := Za (hp3.out.done (by rw [List.length_map]; exact hl3.out) (fun i hi => by
    obtain ⟨x, hx⟩ := Zax (L := L3) (i := i) (by rw [hl3.out]; exact hi)
    rw [List.getElem?_map, hx]; exact hm3.out x (List.mem_of_getElem? hx)) (by omega))
   have hB3 := Za (hB2.out.trans (hK3.to_below hgG2.out hB2.out.size))
   replace hM3 := Za hM3
   clear hK3 hp3
   obtain ⟨w3, hw3⟩ : ∃ x : World, x = wr := ⟨_, rfl⟩
   subst hw3
   go_wp2_with fail
   go_loopg [16, 15] n (fun k iv ov wr => ∃ (i : Nat) (L4 : List RF), i + k = n /\ iv = .int .i64 i /\ MatO 40 45 wr w3.heap.size ov L4 /\ Hid (L4.map RF.q = (Zdj X n m).take i) /\ Below w3.heap.size w3 wr)
   case atStart => exact ⟨0, [], by omega, rfl, MatO.nil _ _ _ _, Za (by simp), Below.refl _ _⟩
   case round =>
    obtain ⟨i, L4, hik, rfl, hM, hQ, hB⟩ := hrel
    have hLl : L4.length = i := by
     have h1 : (L4.map RF.q).length = ((Zdj X n m).take i).length := by rw [hQ.out]
     unfold Zdj at h1
     rw [List.length_map, List.length_take, List.length_map, List.length_range] at h1
     omega
    cases gk with
    | zero =>
     obtain rfl : i = n := by omega
     have t3 : decide ((i : Int) < (i : Int)) = false := by simp
     replace hM := Za hM
     go_wp2_with fail
     go_returns
     refine ⟨_, L4, rfl, hB3.out.trans (hB.mono hB3.out.size), hM.out.base hB3.out.size, ?_⟩
     rw [hQ.out]
     exact List.take_of_length_le (by unfold Zdj; simp)
    | succ j =>
     obtain rfl : j = n - (i + 1) := by omega
     have hin : i < n := by omega
     have t3 : decide ((i : Int) < (n : Int)) = true := decide_eq_true (by omega)
     have bi : (i : Int) < (n : Int) := by omega
     have bn : (n : Int) <= (m : Int) := by omega
     obtain ⟨x, hx⟩ := Zax (L := L3) (i := i) (by rw [hl3.out]; exact hin)
     have hxm := hm3.out x (List.mem_of_getElem? hx)
     have hMb := hM3.out.below hB
     have hbA : Below wr.heap.size wr (wr.alloc (.cells #[] 45)) := (Below.refl wr.heap.size wr).alloc (Nat.le_refl _) _
     have hMc := hMb.below hbA
     have k0 := (hMb.cell hx).1
     have k1 := (hMc.cell hx).1
     obtain ⟨fx, kx1, kx2⟩ := hMc.row hx
     have hF0 := (fx.fl kx1 kx2).drop rfl (k := n) (by omega)
     rw [hxm] at k0 k1 kx1 hF0
     rw [Nat.zero_add] at hF0
     unfold maxLen at kx2
     have bxc : (m : Int) <= (x.c : Int) := by omega
     have hxl : Hid ((Zdj X n m)[i]?.getD [] = x.q.drop n) := Za (by
      rw [<- hfinq.out, List.getElem?_map, List.getElem?_map, hx]; rfl)
     have hxl2 : Hid ((x.q.drop n).length = m - n) := Za (by rw [List.length_drop, hxm])
     have hnil : OwnF 45 (wr.alloc (.cells #[] 45)) wr.heap.size (.slice (some ⟨wr.heap.size, 0, none⟩) 0 0) [] := ⟨[], .inr ⟨wr.heap.size, 0, rfl, Nat.le_refl _, Nat.zero_le _, Blk.new _ _ _⟩, fun e he => (by cases he), rfl⟩
     obtain ⟨fs, hR, hfl, hfe, hfq⟩ := hF0.reads
     have hlt : ∀ s ∈ L4, s.g < wr.heap.size := fun s hs => (hM.2.1 s hs).1.1.lt
     replace hlt := Za hlt
     replace hM := Za hM
     clear hF0 fx hMb hMc
     go_wp2_with (first
      | (at_builtin; refine Zbq _ rfl (.tmp 106) (.tmp 112) 40 rfl wr.heap.size 45 iF Tryz.underlying40 hi hz0 hz1 hz2 _ [] rfl hnil _ _ _ _ fs rfl hR hfl hfe (by simp; omega) (by simp) ?_
         intro v2 w5 hO2 hg5 hk5
         have hbW2 : Below wr.heap.size wr w5 := hbA.grown hg5 hbA.size (fun k hk => by cases hk; exact Nat.le_refl _)
         rw [List.nil_append, hfq] at hO2
         rcases hO2.fown with ⟨-, hnilq⟩ | ⟨g2, c2, rfl, hg2', hc21, hc22, hF2⟩
         ·exfalso
          have h1 := hxl2.out
          rw [hnilq] at h1
          simp at h1
          omega
         have hMw := hM.out.kept hbW2
         rw [hxl2.out] at hc21 ⊢
         have hbB : Below w5.heap.size w5 (w5.alloc (.cells #[.slice (some ⟨g2, 0, none⟩) (m - n) c2] 40)) := (Below.refl _ _).alloc (Nat.le_refl _) _
         have hMA := hMw.kept hbB
         have hB4 := hB.trans ((hbW2.mono hB.size).trans (hbB.mono (Nat.le_trans hB.size hbW2.size)))
         have hFA := hF2.below hbB
         have hQ2 : Hid (L4.map RF.q ++ [x.q.drop n] = (Zdj X n m).take (i + 1)) := Za (by
          rw [hQ.out, List.take_add_one, <- hxl.out, List.getElem?_eq_getElem (by unfold Zdj; simp; exact hin)]; rfl)
         have hRA := Zij w5 (some ⟨g2, 0, none⟩) (m - n) c2 40
         have hown := hMA.1
         have hll : (L4.map RF.rs).length + 1 <= 1000 := by rw [List.length_map]; omega
         have hbs : w3.heap.size <= (w5.alloc (.cells #[.slice (some ⟨g2, 0, none⟩) (m - n) c2] 40)).heap.size := Nat.le_trans hB.size (Nat.le_trans hbW2.size hbB.size)
         replace hMA := Za hMA
         replace hF2 := Za hF2
         clear hk5 hg5 hnil hR hfe hfq hfl hMw hO2)
      | (at_builtin; refine Zde _ rfl (.tmp 105) (.tmp 114) 22 rfl w3.heap.size 40 iS Tryz.underlying22 ki kz0 kz1 kz2 _ _ rfl hown _ _ 1 1 [⟨some ⟨g2, 0, none⟩, m - n, c2⟩] rfl hRA rfl hll hbs ?_; intro v5 w6 hO5 hg5 hk5))
     have hnew : ∀ s ∈ L4, s.g ≠ g2 := fun s hs => by have := hlt.out s hs; omega
     have hM5 := hMA.out.snoc hne (r := ⟨g2, c2, x.q.drop n⟩) ⟨hFA, by rw [hxl2.out]; exact hc21, hc22⟩ (Nat.le_trans hB.size hg2') hnew (by simp only [RF.rs, hxl2.out]; exact hO5) hg5 hk5
     have hB5 := hB4.grown hg5 hbs (fun k hk => hown.row_ge k hk)
     replace hM5 := Za hM5
     go_roundg (n - (i + 1))
     case measure => omega
     case rel => exact ⟨i + 1, _, by omega, by go_num, hM5.out, Za (by rw [List.map_append]; exact hQ2.out), hB5⟩
  | succ i =>
   have e9 : ((i + 1 : Nat) : Int) - 1 = (i : Int) := by omega
   rw [e9]
   have hin : i < n := by omega
   have t2 : decide ((0 : Int) <= (i : Int)) = true := decide_eq_true (by omega)
   have bi : (i : Int) < (n : Int) := by omega
   replace hM3 := Za hM3
   replace hK3 := Za hK3
   go_wp2_with fail
   go_loopg [10] (m - n) (fun k kv wr => ∃ (t : Nat) (L4 : List RF), t + k = m /\ kv = .int .i64 t /\ n <= t /\ MatB 40 45 wr go L4 /\ Hid (L4.length = n) /\ Hid (L4.map RF.g = L2.map RF.g) /\ Hid (∀ x ∈ L4, x.q.length = m) /\ Hid (partX E X n m (i + 1) t (L4.map RF.q)) /\ Kept (fun k => k = go \/ k ∈ L2.map RF.g) w2 wr)
   case atStart => exact ⟨n, L3, by omega, rfl, Nat.le_refl _, hM3.out, hl3, hg3, hm3, hp3, hK3.out⟩
   case round =>
    clear hM3 hl3 hg3 hm3 hp3 hK3
    obtain ⟨t, L4, htk, rfl, hnt, hM, hl4, hg4, hm4, hp4, hK4⟩ := hrel
    obtain ⟨x, hx⟩ := Zax (L := L4) (i := i) (by rw [hl4.out]; exact hin)
    have hxm := hm4.out x (List.mem_of_getElem? hx)
    obtain ⟨cx, zx⟩ := hM.cell hx
    obtain ⟨fx, kx1, kx2⟩ := hM.row hx
    rw [hxm] at cx kx1
    unfold maxLen at kx2
    cases gk with
    | zero =>
     obtain rfl : t = m := by omega
     have t3 : decide ((t : Int) < (t : Int)) = false := by simp
     have hp5 := Za hp4.out.down
     replace hM := Za hM
     replace hK4 := Za hK4
     clear fx
     go_wp2_with fail
     go_roundg i
     case measure => omega
     case rel => exact ⟨L4, by go_num, by omega, hM.out, hl4, hg4, hm4, hp5, hK4.out⟩
    | succ gk' =>
     obtain rfl : gk' = m - (t + 1) := by omega
     have htm : t < m := by omega
     have t3 : decide ((t : Int) < (m : Int)) = true := decide_eq_true (by omega)
     have bt : (t : Int) < (m : Int) := by omega
     have hrow : Hid (∀ (a : Nat) (y : RF), L4[a]? = some y -> y.g ∈ L2.map RF.g) := Za (fun a y hy => by rw [<- hg4.out]; exact List.mem_map.2 ⟨y, List.mem_of_getElem? hy, rfl⟩)
     have hxg : Hid (x.g ∈ L2.map RF.g) := Za (hrow.out i x hx)
     obtain ⟨n1, A1, k1, c1, m1, B1, j1, d1', p0, p1, p2, p3, hf1⟩ := fx.at_ (i := t) (by rw [hxm]; exact htm)
     have hxe : Hid (∀ b, b < m -> x.q[b]?.getD 0 = Zo (L4.map RF.q) i b) := Za (fun b _ => by rw [Zfy, Zfc hx])
     have he1 : x.q[t]?.getD 0 = E i t := by rw [hxe.out t htm, hp4.out i t hin htm, if_neg (by omega)]
     rw [he1] at hf1
     have hf1 : Fr wr n1 A1 k1 c1 m1 B1 j1 d1' (upS E X i t (i + 1)) := by rw [Zo2 _ _ _ _ _ (Nat.le_refl _)]; exact hf1
     obtain ⟨gs, hgs⟩ : ∃ g, wr.heap.size = g := ⟨_, rfl⟩
     obtain ⟨V, hV, hBV, qv, kW, kB, sV⟩ := Z0 45 #[.bool n1, .slice A1 k1 c1, .bool m1, .slice B1 j1 d1'] (Below.refl wr.heap.size wr) (Nat.le_refl _)
     rw [hgs] at qv
     have hf2 := Za (Fr.keep hf1 kW)
     have hMV := Za (hM.below hBV)
     have hKV := Za (hK4.below hBV)
     have hgsG : Hid (∀ k, (k = go \/ k ∈ L2.map RF.g) -> k ≠ gs) := Za (fun k hk e => by
      have h1 := hGlt.out k hk
      have h2 := hK4.size
      omega)
     have hgsw : Hid (w2.heap.size <= gs) := Za (by rw [<- hgs]; exact hK4.size)
     have hbox : Hid (∀ k, k = gs -> ∃ t cs, Blk V k t cs /\ NoLimb cs) := Za (fun k hk => ⟨_, _, hk ▸ qv, Z7 _ _ _ _ _ _ _ _⟩)
     have hMat : Hid (∀ W, Kept (fun k => k = gs) V W -> MatB 40 45 W go L4) := Za (fun W hk => hMV.out.keptG hk (fun e => hgsG.out go (.inl rfl) e) (fun r hr e => by
      obtain ⟨a, ha, hre⟩ := List.getElem_of_mem hr
      exact hgsG.out r.g (.inr (hrow.out a r (by rw [List.getElem?_eq_getElem ha, hre]))) e) hbox.out)
     have hKw : Hid (∀ W, Kept (fun k => k = gs) V W -> Kept (fun k => k = go \/ k ∈ L2.map RF.g) w2 W) := Za (fun W hk => hKV.out.andU hk (fun k h1 h2 => absurd h1 (by have := hgsw.out; omega)))
     replace qv := Za qv
     clear hf1 kW kB fx hM hK4 he1
     go_wp2_with fail
     (try rw [hgs])
     (try rw [hV])
     replace hgs := Za hgs
     clear p0 p1 p2 p3 hV hBV sV cx zx
     go_loopg [12] (n - (i + 1)) (fun k jv wx => ∃ (j : Nat) (sn : Bool) (sA : Option Addr) (sk sc : Nat) (sm : Bool) (sB : Option Addr) (sj sd : Nat), j + k = n /\ jv = .int .i64 j /\ i + 1 <= j /\ Blk wx gs 45 #[.bool sn, .slice sA sk sc, .bool sm, .slice sB sj sd] /\ Fr wx sn sA sk sc sm sB sj sd (upS E X i t j) /\ Kept (fun k => k = gs) V wx)
     case atStart => exact ⟨i + 1, n1, A1, k1, c1, m1, B1, j1, d1', by omega, by go_num, Nat.le_refl _, qv.out, hf2.out, Kept.refl _ _⟩
     case round =>
      obtain ⟨j, sn, sA, sk, sc, sm, sB, sj, sd, hjk, rfl, hij, qs, hfs, hKs⟩ := hrel
      clear qv hf2
      have hM5 := hMat.out _ hKs
      obtain ⟨s0, s1, s2, s3, s4, s5, s6, s7⟩ := qs.four
      obtain ⟨cx, zx⟩ := hM5.cell hx
      rw [hxm] at cx
      obtain ⟨fx, -, -⟩ := hM5.row hx
      cases gk with
      | zero =>
       obtain rfl : j = n := by omega
       have t4 : decide ((j : Int) < (j : Int)) = false := by simp
       have bim : (i : Int) < (m : Int) := by omega
       obtain ⟨n2, A2, k2, c2, m2, B2, j2, d2', q0, q1, q2, q3, hf2⟩ := fx.at_ (i := i) (by rw [hxm]; omega)
       have he2 : x.q[i]?.getD 0 = E i i := by rw [hxe.out i (by omega), hp4.out i i hin (by omega), if_neg (by omega)]
       rw [he2] at hf2
       have sc1 := (d5.out i t j).sm (by decide) (by decide)
       have sc2 := (d3.out i i).sm (by decide) (by decide)
       have sc3 := d1.out i hin
       obtain ⟨y0, y1, y2, y3, y4, y5, y6, y7, -, -, -, -, -⟩ := fx.at_ (i := t) (by rw [hxm]; exact htm)
       have v0 := fx.frozen (t * 4)
       have v1 := fx.frozen (t * 4 + 1)
       have v2 := fx.frozen (t * 4 + 2)
       have v3 := fx.frozen (t * 4 + 3)
       obtain ⟨z0, z1, z2, z3, z4, z5, z6, z7, u0, u1, u2, u3, -⟩ := fx.at_ (i := t) (by rw [hxm]; exact htm)
       clear y0 y1 y2 y3 y4 y5 y6 y7 he2
       replace hM5 := Za hM5
       replace hKs := Za hKs
       go_wp2_with fail
       have hSv9 : Hid (∀ wx, Below wr.heap.size wr wx -> wx.cell? ⟨go, i, none⟩ = some (.slice (some ⟨x.g, 0, none⟩) m x.c) /\ wx.cell? ⟨gs, 0, none⟩ = some (.bool sn) /\ wx.cell? ⟨gs, 1, none⟩ = some (.slice sA sk sc) /\ wx.cell? ⟨gs, 2, none⟩ = some (.bool sm) /\ wx.cell? ⟨gs, 3, none⟩ = some (.slice sB sj sd) /\ wx.cell? ⟨x.g, i * 4, none⟩ = some (.bool n2) /\ wx.cell? ⟨x.g, i * 4 + 1, none⟩ = some (.slice A2 k2 c2) /\ wx.cell? ⟨x.g, i * 4 + 2, none⟩ = some (.bool m2) /\ wx.cell? ⟨x.g, i * 4 + 3, none⟩ = some (.slice B2 j2 d2')) := Za (fun wx hbx => ⟨Zb hbx cx, Zb hbx s0, Zb hbx s1, Zb hbx s2, Zb hbx s3, Zb hbx q0, Zb hbx q1, Zb hbx q2, Zb hbx q3⟩)
       have hr9 : Below wr.heap.size wr wr.drew := Ze (Below.refl _ _) 1
       refine wp_heldS [18] hmx hSv9 hr9 (fun hxs9 => ?_)
       refine Zhz 13 [0, 1, 2, 3, 4, 5, 6, 7, 8, 9, 10, 11, 12] rfl (by kernel_rfl) (hSv9.out _ hr9) ?_
       iterate 13 (refine tk1 (v := ?_) rfl (Or.inl ⟨by kernel_rfl, ?_⟩) ?_; rotate_left; (· intro W2 hSw; (try dsimp only at hSw); go_simp; try with_reducible rfl); try simp only [Act.put, Ze7, Ze8, Zfh, putG_a, putG_s, putG_z])
       refine tk0 ?_
       refine Zg (i := 13) rfl (by kernel_rfl) (fun K hK => ?_)
       go_simp
       refine (Znw sn sm n2 m2 sA sB A2 B2 sk sc sj sd k2 c2 j2 d2' _ _ wr.drew (hfs.below hr9) (hf2.below hr9) sc1 sc2 sc3).mono ?_
       rintro e w5 ⟨hb5, n6, A6, k6, c6, m6, B6, j6, d6, rfl, hf6⟩
       have hr10 := hr9.trans (hb5.mono hr9.size)
       refine hK.out _ _ (fun _ => hSv9.out _ hr10) ?_
       clear hK K
       try simp only [Act.put, Ze7, Ze8, Zfh]
       refine Zfo 4 [14, 15, 16, 17] rfl (by kernel_rfl) (hSv9.out _ hr10) ?_
       iterate 4 (refine tk1 (v := ?_) rfl (Or.inl ⟨by kernel_rfl, ?_⟩) ?_; rotate_left; (· intro W2 _; go_simp; try with_reducible rfl); try simp only [Act.put, Ze7, Ze8, Zfh, putG_a, putG_s, putG_z])
       refine tk0 ?_
       have hb5' : Below wr.heap.size wr w5 := Zq hb5
       have hM6 := hM5.out.below hb5'
       obtain ⟨Z9, hZ9⟩ : ∃ W, Zkn w5 x.g t n6 A6 k6 c6 m6 B6 j6 d6 = W := ⟨_, rfl⟩
       have hZ9' := hZ9
       unfold Zkn at hZ9'
       have hXit : upS E X i t j / E i i = X i t := (d2.out i t hin hnt htm).symm
       have hK9 : Hid (Kept (fun k => k = go \/ k ∈ L2.map RF.g) w2 Z9) := Za (by
        have h1 := hKw.out _ (hKs.out.below hb5')
        rw [<- hZ9]; exact Zl3 h1 (.inl (.inr hxg.out)))
       have hM9 : Hid (MatB 40 45 Z9 go (L4.set i ⟨x.g, x.c, x.q.set t (X i t)⟩)) := Za (by
        rw [hXit] at hf6
        have h1 := hM6.set_ hx (k := t) (by rw [hxm]; exact htm) hf6
        rw [<- hZ9]; exact h1)
       have hp9 : Hid (partX E X j m (i + 1) (t + 1) ((L4.set i ⟨x.g, x.c, x.q.set t (X i t)⟩).map RF.q)) := Za (hp4.out.step hnt (fun a b => by
        rw [List.map_set]
        exact Zuc (Q := L4.map RF.q) (row := x.q) (by rw [List.length_map, hl4.out]; exact hin) (by rw [hxm]; exact htm) (by rw [List.getElem?_map, hx]; rfl) a b))
       have hl9 : Hid ((L4.set i ⟨x.g, x.c, x.q.set t (X i t)⟩).length = j) := Za (by rw [List.length_set]; exact hl4.out)
       have hg9 : Hid ((L4.set i ⟨x.g, x.c, x.q.set t (X i t)⟩).map RF.g = L2.map RF.g) := Za (by rw [Zd4 (s := ⟨x.g, x.c, x.q.set t (X i t)⟩) hx rfl]; exact hg4.out)
       have hm9' : Hid (∀ y ∈ L4.set i ⟨x.g, x.c, x.q.set t (X i t)⟩, y.q.length = m) := Za (fun y hy => by
        rcases List.mem_or_eq_of_mem_set hy with h | h
        ·exact hm4.out y h
        ·rw [h]; simp only [List.length_set]; exact hxm)
       have f0 := Zj hb5' u0 v0
       have f1 := Zj hb5' u1 v1
       have f2 := Zj hb5' u2 v2
       have f3 := Zj hb5' u3 v3
       have g0 := Zb hb5' u0
       have g1 := Zb hb5' u1
       have g2 := Zb hb5' u2
       have g3 := Zb hb5' u3
       clear hM6 hZ9
       refine Zn (i := 18) rfl (by kernel_rfl) (by kernel_rfl) (fun K hK => ?_)
       go_simp
       (try rw [hZ9'])
       refine hK.out _ _ ?_
       clear hK K
       try simp only [Act.put, Ze7, Ze8, Zfh]
       refine Zl (by kernel_rfl) ?_ _
       refine OnlyNormal.normal ?_
       clear hZ9' f0 f1 f2 f3 g0 g1 g2 g3 hb5 hb5' hr9 hr10 hSv9 hxs9 u0 u1 u2 u3 q0 q1 q2 q3 s0 s1 s2 s3 s4 s5 s6 s7 v0 v1 v2 v3 hf6 hf2 hfs hM5 hKs cx hXit qs
       go_wp2_with fail
       go_roundg (m - (t + 1))
       case measure => omega
       case rel => exact ⟨t + 1, _, by omega, by go_num, by omega, hM9.out, hl9, hg9, hm9', hp9, hK9.out⟩
      | succ gk' =>
       obtain rfl : gk' = n - (j + 1) := by omega
       have hjn : j < n := by omega
       have t4 : decide ((j : Int) < (n : Int)) = true := decide_eq_true (by omega)
       have bj : (j : Int) < (n : Int) := by omega
       have bjm : (j : Int) < (m : Int) := by omega
       obtain ⟨n2, A2, k2, c2, m2, B2, j2, d2', q0, q1, q2, q3, hf2⟩ := fx.at_ (i := j) (by rw [hxm]; omega)
       have he2 : x.q[j]?.getD 0 = E i j := by rw [hxe.out j (by omega), hp4.out i j hin (by omega), if_neg (by omega)]
       rw [he2] at hf2
       obtain ⟨y, hy⟩ := Zax (L := L4) (i := j) (by rw [hl4.out]; exact hjn)
       have hym := hm4.out y (List.mem_of_getElem? hy)
       obtain ⟨cy, zy⟩ := hM5.cell hy
       rw [hym] at cy
       obtain ⟨fy, ky1, ky2⟩ := hM5.row hy
       rw [hym] at ky1
       unfold maxLen at ky2
       obtain ⟨n3, A3, k3, c3, m3, B3, j3, d3', r0, r1, r2, r3, hf3⟩ := fy.at_ (i := t) (by rw [hym]; exact htm)
       have he3 : y.q[t]?.getD 0 = X j t := by
        have h1 := hp4.out j t hjn htm
        rw [if_pos (by omega), Zfy, Zfc hy] at h1
        exact h1
       rw [he3] at hf3
       have sc1 := (d3.out i j).sm (by decide) (by decide)
       have sc2 := (d4.out j t).sm (by decide) (by decide)
       have hww : Hid (SmN 600 600 (E i j * X j t)) := Za ((d3.out i j).mulN (d4.out j t))
       replace hM5 := Za hM5
       replace hKs := Za hKs
       replace qs := Za qs
       replace hfs := Za hfs
       clear fx fy he2 he3 s0 s1 s2 s3 s4 s5 s6 s7
       go_wp2_with fail
       have hSv1 : Hid (∀ wx, Below wr.heap.size wr wx -> wx.cell? ⟨go, i, none⟩ = some (.slice (some ⟨x.g, 0, none⟩) m x.c) /\ wx.cell? ⟨go, j, none⟩ = some (.slice (some ⟨y.g, 0, none⟩) m y.c) /\ wx.cell? ⟨x.g, j * 4, none⟩ = some (.bool n2) /\ wx.cell? ⟨x.g, j * 4 + 1, none⟩ = some (.slice A2 k2 c2) /\ wx.cell? ⟨x.g, j * 4 + 2, none⟩ = some (.bool m2) /\ wx.cell? ⟨x.g, j * 4 + 3, none⟩ = some (.slice B2 j2 d2') /\ wx.cell? ⟨y.g, t * 4, none⟩ = some (.bool n3) /\ wx.cell? ⟨y.g, t * 4 + 1, none⟩ = some (.slice A3 k3 c3) /\ wx.cell? ⟨y.g, t * 4 + 2, none⟩ = some (.bool m3) /\ wx.cell? ⟨y.g, t * 4 + 3, none⟩ = some (.slice B3 j3 d3')) := Za (fun wx hbx => ⟨Zb hbx cx, Zb hbx cy, Zb hbx q0, Zb hbx q1, Zb hbx q2, Zb hbx q3, Zb hbx r0, Zb hbx r1, Zb hbx r2, Zb hbx r3⟩)
       have hr1 : Below wr.heap.size wr wr.drew := Ze (Below.refl _ _) 1
       refine wp_heldS [] hmx hSv1 hr1 (fun hxs1 => ?_)
       refine Zhz 14 [0, 1, 2, 3, 4, 5, 6, 7, 8, 9, 10, 11, 12, 13] rfl (by kernel_rfl) (hSv1.out _ hr1) ?_
       iterate 14 (refine tk1 (v := ?_) rfl (Or.inl ⟨by kernel_rfl, ?_⟩) ?_; rotate_left; (· intro W2 hSw; (try dsimp only at hSw); go_simp; try with_reducible rfl); try simp only [Act.put, Ze7, Ze8, Zfh, putG_a, putG_s, putG_z])
       refine tk0 ?_
       refine Zaw [(14, 73), (15, 58), (16, 74), (18, 13)] (fun i => match i with | 15 => [17] | _ => []) [(14, 73), (15, 58), (17, 75), (16, 74), (18, 13)] (Zp wr.heap.size (E i j * X j t) 14 15 16 17 18 17) 2 (by kernel_rfl) (fun _ _ _ _ _ hb h => Zck hb h) (fun wx h => hSv1.out _ (hr1.trans (h.mono hr1.size))) ?hop1 ?hfin1
       case hop1 =>
        intro p hp
        simp only [List.mem_cons, List.not_mem_nil, or_false] at hp
        simp only [List.map_cons, List.map_nil, Zai, Act.put, Ze7, Ze8, Zfh]
        rcases hp with rfl | rfl | rfl | rfl
        ·intro ν wx hb hP
         have hbx := hr1.trans (hb.mono hr1.size)
         refine Zk (i := 14) rfl (fun K hK => ?_)
         go_simp
         refine (Ziu n2 m2 n3 m3 A2 B2 A3 B3 k2 c2 j2 d2' k3 c3 j3 d3' _ _ wx (hf2.below hbx) (hf3.below hbx) sc1 sc2).mono ?_
         rintro e w5 ⟨hb5, na5, A5, k5, c5, nb5, B5, m5, d5, rfl, hf5⟩
         exact hK.out _ _ ⟨_, rfl, (by simp only [Zp]; exact ⟨_, _, _, _, _, _, _, _, rfl, hf5⟩), hb5, trivial⟩
        ·intro ν wx hb hP
         have h0 := hP (14, 73) (by simp) (by kernel_rfl)
         simp only [Zp] at h0
         obtain ⟨na5, A5, k5, c5, nb5, B5, m5, d5, hν, hf5⟩ := h0
         rw [hν]
         refine Zk (i := 15) rfl (fun K hK => ?_)
         go_simp
         refine hK.out _ _ ⟨_, rfl, (by simp only [Zp]; exact ⟨_, _, _, _, _, _, _, _, rfl, hf5⟩), Below.refl _ _, ?_⟩
         exact ⟨_, .int .i64 0, rfl, Or.inl ⟨by kernel_rfl, fun W2 _ => by go_simp⟩, by simp [Zp], trivial⟩
        ·intro ν wx hb hP
         have h0 := hP (15, 58) (by simp) (by kernel_rfl)
         simp only [Zp] at h0
         obtain ⟨na5, A5, k5, c5, nb5, B5, m5, d5, hν, hf5⟩ := h0
         rw [hν]
         refine Zk (i := 16) rfl (fun K hK => ?_)
         go_simp
         exact hK.out _ _ ⟨_, rfl, (by simp only [Zp]; exact ⟨_, _, _, _, _, _, _, _, rfl, hf5⟩), Below.refl _ _, trivial⟩
        ·intro ν wx hb hP
         refine Zk (i := 18) rfl (fun K hK => ?_)
         go_simp
         exact hK.out _ _ ⟨_, rfl, (by simp only [Zp]; exact ⟨_, rfl, hb.size, Blk.new _ _ _⟩), (Below.refl _ _).alloc (Nat.le_refl _) _, trivial⟩
       case hfin1 =>
        intro ν wx hb hP
        have h0 := hP (14, 73) (by simp)
        have h1 := hP (15, 58) (by simp)
        have h2 := hP (16, 74) (by simp)
        have h3 := hP (17, 75) (by simp)
        have h4 := hP (18, 13) (by simp)
        simp only [Zp] at h0 h1 h2 h4
        obtain ⟨a0, a1, a2, a3, a4, a5, a6, a7, h0, -⟩ := h0
        obtain ⟨b0', b1', b2', b3', b4', b5', b6', b7', h1, -⟩ := h1
        obtain ⟨wwn, wwA, wwk, wwc, wwm, wwB, wwj, wwd, h2, wwf⟩ := h2
        obtain ⟨gww, h4, kv, qv⟩ := h4
        simp only [List.map_cons, List.map_nil, Zai, Act.put, Ze7, Ze8, Zfh]
        rw [h0, h1, h2, (show ν 75 = Value.int .i64 0 by simpa [Zp] using h3), h4]
        clear h0 h1 h2 h3 h4 hP ν
        have hbx := hr1.trans (hb.mono hr1.size)
        have qv4 := qv.four
        have kv2 : wr.heap.size <= gww := kv
        refine (Zz wwn wwA wwk wwc wwm wwB wwj wwd hbx kv2 qv).elim (fun Zww hq => ?_)
        have c0 := qv4.1
        have c1' := qv4.2.1
        have c2' := qv4.2.2.1
        have c3 := qv4.2.2.2.1
        have f0 := qv4.2.2.2.2.1
        have f1 := qv4.2.2.2.2.2.1
        have f2 := qv4.2.2.2.2.2.2.1
        have f3 := qv4.2.2.2.2.2.2.2
        have hZ := hq.1
        refine Zg (i := 19) rfl (by kernel_rfl) (fun K hK => ?_)
        go_simp
        (try rw [hZ])
        refine hK.out _ _ (fun _ => hSv1.out _ hq.2.1) ?_
        clear hK K
        try simp only [Act.put, Ze7, Ze8, Zfh]
        refine Zfo 1 [20] rfl (by kernel_rfl) (hSv1.out _ hq.2.1) ?_
        (refine tk1 (v := ?_) rfl (Or.inl ⟨by kernel_rfl, ?_⟩) ?_; rotate_left; (· intro W2 _; go_simp; try with_reducible rfl); try simp only [Act.put, Ze7, Ze8, Zfh, putG_a, putG_s, putG_z])
        refine tk0 ?_
        refine Zl (by kernel_rfl) ?_ _
        refine OnlyNormal.normal ?_
        have hbZww := hq.2.1
        have wwb := Za hq.2.2.1
        replace wwf := Za (Fr.keep wwf hq.2.2.2.1)
        clear hq hZ c0 c1' c2' c3 f0 f1 f2 f3 qv4 qv kv hbx hb hr1 hSv1 hxs1
        have hb0 := hbZww
        have hK6 : Kept (fun k => k = gs) V Zww := hKs.out.below hb0
        have qs6 := Zc hb0 qs.out
        have hfs6 : Fr Zww sn sA sk sc sm sB sj sd (upS E X i t j) := hfs.out.below hb0
        have sc3 := (d5.out i t j).sm (by decide) (by decide)
        have sc4 := hww.out.sm (by decide) (by decide)
        obtain ⟨s0, s1, s2, s3, -⟩ := qs6.four
        obtain ⟨y0, y1, y2, y3, -⟩ := wwb.out.four
        replace hK6 := Za hK6
        replace qs6 := Za qs6
        clear q0 q1 q2 q3 r0 r1 r2 r3 hf2 hf3 sc1 sc2 hM5 hKs qs hfs cx cy zx zy hb0
        go_wp2_with fail
        refine (Zil sn sm wwn wwm sA sB wwA wwB sk sc sj sd wwk wwc wwj wwd _ _ Zww hfs6 wwf.out sc3 sc4).mono ?_
        rintro e w5 ⟨hb5, n6, A6, k6, c6, m6, B6, j6, d6, rfl, hf6⟩
        rw [<- Zny E X (i := i) (k := t) (t := j) (by omega)] at hf6
        have qs7 := Zc hb5 qs6.out
        have hK7 := hK6.out.below hb5
        obtain ⟨W6, hW6, hB6, q6, kW6, -, s6⟩ := Zz (B := gs) n6 A6 k6 c6 m6 B6 j6 d6 (Below.refl gs w5) (Nat.le_refl _) qs7
        have hf7 := Za (Fr.keep hf6 kW6)
        have hK8 : Hid (Kept (fun k => k = gs) V W6) := Za (by
         rw [<- hW6]
         exact ((((hK7.set_ (p := ⟨gs, 0, none⟩) (.inl rfl) _).set_ (p := ⟨gs, 1, none⟩) (.inl rfl) _).set_ (p := ⟨gs, 2, none⟩) (.inl rfl) _).set_ (p := ⟨gs, 3, none⟩) (.inl rfl) _))
        replace q6 := Za q6
        clear s0 s1 s2 s3 y0 y1 y2 y3 hfs6 hf6 hb5 kW6 hK7
        obtain ⟨s0, s1, s2, s3, s4, s5, s6', s7⟩ := qs7.four
        go_wp2_with fail
        (try rw [hW6])
        clear s0 s1 s2 s3 s4 s5 s6' s7 hW6 qs7
        go_roundg (n - (j + 1))
        case measure => omega
        case rel => exact ⟨j + 1, n6, A6, k6, c6, m6, B6, j6, d6, by omega, by go_num, by omega, q6.out, hf7.out, hK8.out⟩
end Go.Proofs.YtigdclhagmnopaaGreat
