/- The reference of linear: clear. -/
import Derived.Deep.LoopGhost
import Derived.Test.YtigdclhagmnopaaGreatZl30
set_option maxRecDepth 100000
set_option maxHeartbeats 8000000
set_option linter.unusedSimpArgs false
set_option linter.unusedVariables false
namespace Go.Proofs.YtigdclhagmnopaaGreat
open Go.RowKit
attribute [local go_sem] Zi
theorem Zew (L : List RF) (i j : Nat) : Zl (L.map RF.q) i j = (Zb7 L i)[j]?.getD 0 := by unfold Zl Zb7; rw [List.getElem?_map]
theorem Zat {α : Type} {L : List α} {i : Nat} (h : i < L.length) : ∃ r, L[i]? = some r := ⟨_, List.getElem?_eq_getElem h⟩
theorem Zd0 {α β : Type} {f : α -> β} {L : List α} {i : Nat} {r s : α} (hr : L[i]? = some r) (h : f s = f r) : (L.set i s).map f = L.map f := by
 rw [List.map_set]
 apply List.ext_getElem?
 intro j
 rw [List.getElem?_set]
 split
 ·rename_i hij
  subst hij
  have hi := (List.getElem?_eq_some_iff.1 hr).1
  rw [if_pos (by simpa using hi), List.getElem?_map, hr, h]; rfl
 ·rfl
theorem Ztb {L : List RF} {i j : Nat} {r : RF} (hi : i < L.length) : Zb7 (L.set i r) j = if j = i then r.q else Zb7 L j := by
 unfold Zb7
 rw [List.getElem?_set]
 by_cases h : i = j
 ·subst h; rw [if_pos rfl, if_pos hi, if_pos rfl]; rfl
 ·rw [if_neg h, if_neg (Ne.symm h)]
def ClrTo (L L2 : List RF) (r col i : Nat) : Prop := ∀ j, j < L.length -> Zb7 L2 j = if j <= r \/ i <= j then Zb7 L j else Zle (Zb7 L r) (Zb7 L j) col
theorem ClrTo.step {L L2 : List RF} {r col i : Nat} {x : RF} (h : ClrTo L L2 r col i) (hl : L2.length = L.length) (hi : i < L.length) (hri : r < i) (hx : x.q = Zle (Zb7 L r) (Zb7 L i) col) : ClrTo L (L2.set i x) r col (i + 1) := by
 intro j hj
 rw [Ztb (by omega), h j hj]
 by_cases hji : j = i
 ·subst hji; rw [if_pos rfl, hx, if_neg (by omega)]
 ·rw [if_neg hji]
  by_cases h1 : j <= r \/ i <= j
  ·rw [if_pos h1, if_pos (by omega)]
  ·rw [if_neg h1, if_neg (by omega)]
theorem ClrTo.skip {L L2 : List RF} {r col i : Nat} (h : ClrTo L L2 r col i) (hri : r < i) (hx : (Zb7 L i)[col]?.getD 0 = 0) : ClrTo L L2 r col (i + 1) := by
 intro j hj
 rw [h j hj]
 by_cases hji : j = i
 ·subst hji; rw [if_pos (by omega), if_neg (by omega), Zrf hx]
 ·by_cases h1 : j <= r \/ i <= j
  ·rw [if_pos h1, if_pos (by omega)]
  ·rw [if_neg h1, if_neg (by omega)]
theorem ClrTo.done {L L2 : List RF} {r col : Nat} (h : ClrTo L L2 r col L.length) (hl : L2.length = L.length) : L2.map RF.q = Zbh (L.map RF.q) r col := by
 refine Zsy (by rw [Zdb]; simpa using hl) (fun i hi => ?_)
 rw [Zdb, List.length_map] at hi
 rw [h i hi, Zph (by simpa using hi), <- Znl, <- Znl]
 by_cases h1 : i <= r
 ·rw [if_pos (Or.inl h1), if_pos h1]
 ·rw [if_neg (by omega), if_neg h1]
theorem Zqz (go n cap : Nat) (L : List RF) (m r col : Nat) (w : World) (hM : MatB 40 45 w go L) (hn : L.length = n) (hn9 : n <= 1000) (hcap : n <= cap) (hcm : cap <= maxLen) (hm : ∀ x ∈ L, x.q.length = m) (hm9 : m <= 1000) (hr : r < n) (hc : col < m)
    (hp : Zl (L.map RF.q) r col ≠ 0) (hB : ∀ i j, SmN 200 200 (Zl (L.map RF.q) i j)) :
    Calls Tryz.prog 101 #[.slice (some ⟨go, 0, none⟩) n cap, .int .i64 r, .int .i64 col] w fun e w' => e = .returned (.tuple #[]) /\
     ∃ L2, L2.length = n /\ L2.map RF.g = L.map RF.g /\ L2.map RF.c = L.map RF.c /\ L2.map RF.q = Zbh (L.map RF.q) r col /\ MatB 40 45 w' go L2 /\ Kept (fun g => g ∈ L.map RF.g) w w' := by
 have hmx : Tryz.prog.follows .mixedOrders = true := by kernel_rfl
 unfold maxLen at hcm
 have hgo := Za (Zr (hM.cell (Zat (L := L) (i := 0) (by omega)).choose_spec).1)
 have hGX : Hid (∀ k, k ∈ L.map RF.g -> ∃ t cs, Blk w k t cs /\ NoLimb cs) := Za (fun k hk => hM.boxes k (.inr hk))
 obtain ⟨rr, hrr⟩ := Zat (L := L) (i := r) (by omega)
 have hnR : Hid (∀ i x, L[i]? = some x -> x.q = Zb7 L i) := Za (fun i x hx => (Zel hx).symm)
 have hmQ : Hid (∀ i, i < n -> (Zb7 L i).length = m) := Za (fun i hi => by
  obtain ⟨x, hx⟩ := Zat (L := L) (i := i) (by omega)
  rw [Zel hx]; exact hm x (List.mem_of_getElem? hx))
 have hBq : Hid (∀ i j, SmN 200 200 ((Zb7 L i)[j]?.getD 0)) := Za (fun i j => by rw [<- Zew]; exact hB i j)
 have hpq : Hid ((Zb7 L r)[col]?.getD 0 ≠ 0) := Za (by rw [<- Zew]; exact hp)
 have hgoL : Hid (go ∉ L.map RF.g) := Za (List.nodup_cons.1 hM.2.2).1
 have hr1 : IntKind.i64.wrap ((r : Int) + 1) = ((r + 1 : Nat) : Int) := by rw [IntKind.wrap_i64]; omega
 replace hn := Za hn
 clear hB hp hm
 go_enter Tryz.func101, Tryz.ntmps101
 go_wp2_with fail
 go_loopg [6] (n - (r + 1)) (fun k iv wr => ∃ (i : Nat) (L2 : List RF), i + k = n /\ iv = .int .i64 i /\ r + 1 <= i /\ MatB 40 45 wr go L2 /\ Hid (L2.length = n) /\ Hid (L2.map RF.g = L.map RF.g) /\ Hid (L2.map RF.c = L.map RF.c) /\ Hid (ClrTo L L2 r col i) /\ Kept (fun g => g ∈ L.map RF.g) w wr)
 case atStart => exact ⟨r + 1, L, by omega, by go_num, Nat.le_refl _, hM, hn, Za rfl, Za rfl, Za (fun j hj => by by_cases h1 : j <= r \/ r + 1 <= j; rw [if_pos h1]; exact absurd h1 (by omega)), Kept.refl _ _⟩
 case round =>
  clear hM
  obtain ⟨i, L2, hik, rfl, hri, hM, hl2, hg2, hc2, hcl, hK⟩ := hrel
  cases gk with
  | zero =>
   obtain rfl : i = n := by omega
   have t1 : decide ((i : Int) < (i : Int)) = false := by simp
   have hfin : Hid (L2.map RF.q = Zbh (L.map RF.q) r col) := Za (ClrTo.done (by rw [hn.out]; exact hcl.out) (by rw [hl2.out, hn.out]))
   replace hM := Za hM
   replace hK := Za hK
   go_wp2_with fail
   go_returns
   exact ⟨rfl, L2, hl2.out, hg2.out, hc2.out, hfin.out, hM.out, hK.out⟩
  | succ j =>
   obtain rfl : j = n - (i + 1) := by omega
   have hin : i < n := by omega
   have t1 : decide ((i : Int) < (n : Int)) = true := decide_eq_true (by omega)
   have bi : (i : Int) < (n : Int) := by omega
   have br : (r : Int) < (n : Int) := by omega
   obtain ⟨ri, hri2⟩ := Zat (L := L2) (i := i) (by rw [hl2.out]; exact hin)
   obtain ⟨r2, hr2⟩ := Zat (L := L2) (i := r) (by rw [hl2.out]; exact hr)
   have hqi : ri.q = Zb7 L i := by
    have := hcl.out i (by rw [hn.out]; exact hin)
    rw [Zel hri2, if_pos (Or.inr (Nat.le_refl i))] at this; exact this
   have hqr : r2.q = Zb7 L r := by
    have := hcl.out r (by rw [hn.out]; exact hr)
    rw [Zel hr2, if_pos (Or.inl (Nat.le_refl r))] at this; exact this
   have hli : ri.q.length = m := by rw [hqi]; exact hmQ.out i hin
   have hlr : r2.q.length = m := by rw [hqr]; exact hmQ.out r hr
   obtain ⟨ci, zi⟩ := hM.cell hri2
   obtain ⟨cr, zr⟩ := hM.cell hr2
   obtain ⟨fi, ki1, ki2⟩ := hM.row hri2
   obtain ⟨fr, kr1, kr2⟩ := hM.row hr2
   rw [hli] at ci ki1
   rw [hlr] at cr kr1
   unfold maxLen at ki2 kr2
   have hne := hM.ne2 hri2 hr2 (by omega)
   have bc : (col : Int) < (m : Int) := by omega
   obtain ⟨n1, A1, k1, c1, m1, B1, j1, d1, p0, p1, p2, p3, hf1⟩ := fi.at_ (i := col) (by rw [hli]; exact hc)
   have hk1 := hf1.1.2.1
   by_cases hz : k1 = 0
   case pos =>
    have t2 : ((k1 : Int) == 0) = true := by simp [hz]
    have t2' : decide (k1 = 0) = true := by simpa using hz
    have hq0 : (Zb7 L i)[col]?.getD 0 = 0 := by rw [<- hqi]; exact hf1.zero_iff.1 hz
    have hcl2 : Hid (ClrTo L L2 r col (i + 1)) := Za (hcl.out.skip (by omega) hq0)
    replace hM := Za hM
    replace hK := Za hK
    replace hz := Za hz
    clear hq0 hf1 fi fr cr zr zi p0 p2 p3 hqi hqr hli hlr hri2 hr2 hne
    go_wp2_with fail
    go_roundg (n - (i + 1))
    case measure => omega
    case rel => exact ⟨i + 1, L2, by omega, by go_num, by omega, hM.out, hl2, hg2, hc2, hcl2, hK.out⟩
   have t2 : ((k1 : Int) == 0) = false := by simp; omega
   have t2' : decide (k1 = 0) = false := by simpa using hz
   have hnz : (Zb7 L i)[col]?.getD 0 ≠ 0 := by rw [<- hqi]; exact fun e => hz (hf1.zero_iff.2 e)
   replace hz := Za hz
   obtain ⟨n2, A2, k2, c2, m2, B2, j2, d2, q0, q1, q2, q3, hf2⟩ := fr.at_ (i := col) (by rw [hlr]; exact hc)
   rw [hqi] at hf1
   rw [hqr] at hf2
   obtain ⟨by_, hby⟩ : ∃ q : Rat, (Zb7 L i)[col]?.getD 0 / (Zb7 L r)[col]?.getD 0 = q := ⟨_, rfl⟩
   have hbyS : Hid (SmN 400 400 by_) := Za (by rw [<- hby]; exact (hBq.out i col).divN (hBq.out r col) hpq.out)
   have sc1 := (hBq.out i col).sm (by decide) (by decide)
   have sc2 := (hBq.out r col).sm (by decide) (by decide)
   replace hby := Za hby
   replace hnz := Za hnz
   have hboxi := Za fi.box
   have fiH := Za fi
   have frH := Za fr
   clear fi fr
   replace hM := Za hM
   replace hK := Za hK
   go_wp2_with fail
   have hSv1 : Hid (∀ wx, Below wr.heap.size wr wx -> wx.cell? ⟨go, i, none⟩ = some (.slice (some ⟨ri.g, 0, none⟩) m ri.c) /\ wx.cell? ⟨go, r, none⟩ = some (.slice (some ⟨r2.g, 0, none⟩) m r2.c) /\ wx.cell? ⟨ri.g, col * 4, none⟩ = some (.bool n1) /\ wx.cell? ⟨ri.g, col * 4 + 1, none⟩ = some (.slice A1 k1 c1) /\ wx.cell? ⟨ri.g, col * 4 + 2, none⟩ = some (.bool m1) /\ wx.cell? ⟨ri.g, col * 4 + 3, none⟩ = some (.slice B1 j1 d1) /\ wx.cell? ⟨r2.g, col * 4, none⟩ = some (.bool n2) /\ wx.cell? ⟨r2.g, col * 4 + 1, none⟩ = some (.slice A2 k2 c2) /\ wx.cell? ⟨r2.g, col * 4 + 2, none⟩ = some (.bool m2) /\ wx.cell? ⟨r2.g, col * 4 + 3, none⟩ = some (.slice B2 j2 d2)) := Za (fun wx hbx => ⟨Zb hbx ci, Zb hbx cr, Zb hbx p0, Zb hbx p1, Zb hbx p2, Zb hbx p3, Zb hbx q0, Zb hbx q1, Zb hbx q2, Zb hbx q3⟩)
   have hr1 : Below wr.heap.size wr wr.drew := Zf (Below.refl _ _) 1
   refine wp_heldS [] hmx hSv1 hr1 (fun hxs1 => ?_)
   refine Zij 14 [0, 1, 2, 3, 4, 5, 6, 7, 8, 9, 10, 11, 12, 13] rfl (by kernel_rfl) (hSv1.out _ hr1) ?_
   iterate 14 (refine tk1 (v := ?_) rfl (Or.inl ⟨by kernel_rfl, ?_⟩) ?_; rotate_left; (· intro W2 hSw; (try dsimp only at hSw); go_simp; try with_reducible rfl); try simp only [Act.put, Zfg, Zfj, Zfc, putG_a, putG_s, putG_z])
   refine tk0 ?_
   refine Zch [(14, 46), (15, 31), (16, 47), (18, 7)] (fun i => match i with | 15 => [17] | _ => []) [(14, 46), (15, 31), (17, 48), (16, 47), (18, 7)] (Z4 wr.heap.size ((Zb7 L i)[col]?.getD 0 / (Zb7 L r)[col]?.getD 0) 14 15 16 17 18 17) 2 (by kernel_rfl) (fun _ _ _ _ _ hb h => Zdo hb h) (fun wx h => hSv1.out _ (hr1.trans (h.mono hr1.size))) ?hop1 ?hfin1
   case hop1 =>
    intro p hp
    simp only [List.mem_cons, List.not_mem_nil, or_false] at hp
    simp only [List.map_cons, List.map_nil, Zaz, Act.put, Zfg, Zfj, Zfc]
    rcases hp with rfl | rfl | rfl | rfl
    ·intro ν wx hb hP
     have hbx := hr1.trans (hb.mono hr1.size)
     refine Z2 (i := 14) rfl (fun K hK => ?_)
     go_simp
     refine (Zn4 n1 m1 n2 m2 A1 B1 A2 B2 k1 c1 j1 d1 k2 c2 j2 d2 _ _ wx (hf1.below hbx) (hf2.below hbx) sc1 sc2 hpq.out).mono ?_
     rintro e w5 ⟨hb5, na5, A5, k5, c5, nb5, B5, m5, d5, rfl, hf5⟩
     exact hK.out _ _ ⟨_, rfl, (by simp only [Z4]; exact ⟨_, _, _, _, _, _, _, _, rfl, hf5⟩), hb5, trivial⟩
    ·intro ν wx hb hP
     have h0 := hP (14, 46) (by simp) (by kernel_rfl)
     simp only [Z4] at h0
     obtain ⟨na5, A5, k5, c5, nb5, B5, m5, d5, hν, hf5⟩ := h0
     rw [hν]
     refine Z2 (i := 15) rfl (fun K hK => ?_)
     go_simp
     refine hK.out _ _ ⟨_, rfl, (by simp only [Z4]; exact ⟨_, _, _, _, _, _, _, _, rfl, hf5⟩), Below.refl _ _, ?_⟩
     exact ⟨_, .int .i64 0, rfl, Or.inl ⟨by kernel_rfl, fun W2 _ => by go_simp⟩, by simp [Z4], trivial⟩
    ·intro ν wx hb hP
     have h0 := hP (15, 31) (by simp) (by kernel_rfl)
     simp only [Z4] at h0
     obtain ⟨na5, A5, k5, c5, nb5, B5, m5, d5, hν, hf5⟩ := h0
     rw [hν]
     refine Z2 (i := 16) rfl (fun K hK => ?_)
     go_simp
     exact hK.out _ _ ⟨_, rfl, (by simp only [Z4]; exact ⟨_, _, _, _, _, _, _, _, rfl, hf5⟩), Below.refl _ _, trivial⟩
    ·intro ν wx hb hP
     refine Z2 (i := 18) rfl (fun K hK => ?_)
     go_simp
     exact hK.out _ _ ⟨_, rfl, (by simp only [Z4]; exact ⟨_, rfl, hb.size, Blk.new _ _ _⟩), (Below.refl _ _).alloc (Nat.le_refl _) _, trivial⟩
   case hfin1 =>
    intro ν wx hb hP
    have h0 := hP (14, 46) (by simp)
    have h1 := hP (15, 31) (by simp)
    have h2 := hP (16, 47) (by simp)
    have h3 := hP (17, 48) (by simp)
    have h4 := hP (18, 7) (by simp)
    simp only [Z4] at h0 h1 h2 h4
    obtain ⟨a0, a1, a2, a3, a4, a5, a6, a7, h0, -⟩ := h0
    obtain ⟨b0', b1', b2', b3', b4', b5', b6', b7', h1, -⟩ := h1
    obtain ⟨bbn, bbA, bbk, bbc, bbm, bbB, bbj, bbd, h2, bbf⟩ := h2
    obtain ⟨gbb, h4, kv, qv⟩ := h4
    simp only [List.map_cons, List.map_nil, Zaz, Act.put, Zfg, Zfj, Zfc]
    rw [h0, h1, h2, (show ν 48 = Value.int .i64 0 by simpa [Z4] using h3), h4]
    clear h0 h1 h2 h3 h4 hP ν
    have hbx := hr1.trans (hb.mono hr1.size)
    have qv4 := qv.four
    have kv2 : wr.heap.size <= gbb := kv
    refine (Zx bbn bbA bbk bbc bbm bbB bbj bbd hbx kv2 qv).elim (fun Zbb hq => ?_)
    have c0 := qv4.1
    have c1' := qv4.2.1
    have c2' := qv4.2.2.1
    have c3 := qv4.2.2.2.1
    have f0 := qv4.2.2.2.2.1
    have f1 := qv4.2.2.2.2.2.1
    have f2 := qv4.2.2.2.2.2.2.1
    have f3 := qv4.2.2.2.2.2.2.2
    have hZ := hq.1
    refine Ze (i := 19) rfl (by kernel_rfl) (fun K hK => ?_)
    go_simp
    (try rw [hZ])
    refine hK.out _ _ (fun _ => hSv1.out _ hq.2.1) ?_
    clear hK K
    try simp only [Act.put, Zfg, Zfj, Zfc]
    refine Zfh 1 [20] rfl (by kernel_rfl) (hSv1.out _ hq.2.1) ?_
    (refine tk1 (v := ?_) rfl (Or.inl ⟨by kernel_rfl, ?_⟩) ?_; rotate_left; (· intro W2 _; go_simp; try with_reducible rfl); try simp only [Act.put, Zfg, Zfj, Zfc, putG_a, putG_s, putG_z])
    refine tk0 ?_
    refine Zk (by kernel_rfl) ?_ _
    refine OnlyNormal.normal ?_
    have hbZbb := hq.2.1
    have bbb := Za hq.2.2.1
    replace bbf := Za (Fr.keep bbf hq.2.2.2.1)
    clear hq hZ c0 c1' c2' c3 f0 f1 f2 f3 qv4 qv kv hbx hb hr1 hSv1 hxs1
    rw [hby.out] at bbf
    have hM2 := hM.out.below hbZbb
    have hK2 : Kept (fun g => g ∈ L.map RF.g) w Zbb := hK.out.below hbZbb
    have hgb : Hid (gbb ∉ L.map RF.g) := Za (fun hmem => by
     obtain ⟨t, cs, hb, -⟩ := hGX.out gbb hmem
     have := hb.lt
     have := hK.out.size
     omega)
    have hGZ : Hid (∀ k, k ∈ L.map RF.g -> ∃ t cs, Blk Zbb k t cs /\ NoLimb cs) := Za (fun k hk => hM2.boxes k (.inr (by rw [hg2.out]; exact hk)))
    have hgi : Hid (ri.g ∈ L.map RF.g) := Za (by rw [<- hg2.out]; exact List.mem_map.2 ⟨ri, List.mem_of_getElem? hri2, rfl⟩)
    have hgr : Hid (r2.g ∈ L.map RF.g) := Za (by rw [<- hg2.out]; exact List.mem_map.2 ⟨r2, List.mem_of_getElem? hr2, rfl⟩)
    clear hK hM p0 p1 p2 p3 q0 q1 q2 q3 sc1 sc2 hf1 hf2 t1 t2 t2' ci cr zi zr hbZbb
    replace hK2 := Za hK2
    go_wp2_with fail
    go_loopg [9] (m - col) (fun k iv wr => ∃ (j : Nat) (q3 : List Rat), j + k = m /\ iv = .int .i64 j /\ col <= j /\ MatB 40 45 wr go (L2.set i ⟨ri.g, ri.c, q3⟩) /\ Hid (q3.length = m) /\ Hid (∀ t, q3[t]?.getD 0 = if col <= t /\ t < j then (Zb7 L i)[t]?.getD 0 - by_ * (Zb7 L r)[t]?.getD 0 else (Zb7 L i)[t]?.getD 0) /\ Kept (fun g => g ∈ L.map RF.g) Zbb wr)
    case atStart =>
     refine ⟨col, ri.q, by omega, rfl, Nat.le_refl _, ?_, Za hli, Za (fun t => by rw [if_neg (by omega), hqi]), Kept.refl _ _⟩
     have e : L2.set i ⟨ri.g, ri.c, ri.q⟩ = L2 := by
      apply List.ext_getElem?
      intro t
      rw [List.getElem?_set]
      split
      ·rename_i h; subst h; rw [if_pos (by rw [hl2.out]; exact hin), hri2]
      ·rfl
     rw [e]; exact hM2
    case round =>
     clear hM2
     obtain ⟨j, q3, hjk, rfl, hcj, hM3, hl3, hq3, hK3⟩ := hrel
     obtain ⟨c0, z0⟩ := hM3.cell (i := i) (r := ⟨ri.g, ri.c, q3⟩) (by rw [List.getElem?_set, if_pos rfl, if_pos (by rw [hl2.out]; exact hin)])
     simp only [hl3.out] at c0
     cases gk with
     | zero =>
      obtain rfl : j = m := by omega
      have t3 : decide ((j : Int) < (j : Int)) = false := by simp
      have hrel2 : Hid ((L2.set i ⟨ri.g, ri.c, q3⟩).length = n /\ (L2.set i ⟨ri.g, ri.c, q3⟩).map RF.g = L.map RF.g /\ (L2.set i ⟨ri.g, ri.c, q3⟩).map RF.c = L.map RF.c /\ ClrTo L (L2.set i ⟨ri.g, ri.c, q3⟩) r col (i + 1)) := Za (by
       refine ⟨by rw [List.length_set]; exact hl2.out, ?_, ?_, ?_⟩
       ·rw [Zd0 (s := ⟨ri.g, ri.c, q3⟩) hri2 rfl]; exact hg2.out
       ·rw [Zd0 (s := ⟨ri.g, ri.c, q3⟩) hri2 rfl]; exact hc2.out
       ·refine hcl.out.step (by rw [hl2.out, hn.out]) (by rw [hn.out]; exact hin) (by omega) ?_
        refine rowR_eq (by rw [hl3.out, hmQ.out i hin]) (fun t => ?_)
        rw [hq3.out t, hby.out, hmQ.out i hin])
      have hK6 : Hid (Kept (fun g => g ∈ L.map RF.g) w wr) := Za (hK2.out.trans hK3)
      replace hM3 := Za hM3
      clear hK3
      go_wp2_with fail
      go_roundg (n - (i + 1))
      case measure => omega
      case rel => exact ⟨i + 1, _, by omega, by go_num, by omega, hM3.out, Za hrel2.out.1, Za hrel2.out.2.1, Za hrel2.out.2.2.1, Za hrel2.out.2.2.2, hK6.out⟩
     | succ gk' =>
      obtain rfl : gk' = m - (j + 1) := by omega
      have hjm : j < m := by omega
      have t3 : decide ((j : Int) < (m : Int)) = true := decide_eq_true (by omega)
      have bj : (j : Int) < (m : Int) := by omega
      obtain ⟨c1', z1⟩ := hM3.cell (i := r) (r := r2) (by rw [List.getElem?_set, if_neg (by omega)]; exact hr2)
      rw [hlr] at c1'
      obtain ⟨f3, -, -⟩ := hM3.row (i := i) (r := ⟨ri.g, ri.c, q3⟩) (by rw [List.getElem?_set, if_pos rfl, if_pos (by rw [hl2.out]; exact hin)])
      obtain ⟨f4, -, -⟩ := hM3.row (i := r) (r := r2) (by rw [List.getElem?_set, if_neg (by omega)]; exact hr2)
      obtain ⟨n4, A4, k4, c4, m4, B4, j4, d4, q0, q1, q2, q3', hf4⟩ := f4.at_ (i := j) (by rw [hlr]; exact hjm)
      rw [hqr] at hf4
      have hbb := hK3.blk bbb.out hgb.out
      obtain ⟨x0, x1, x2, x3, -⟩ := hbb.four
      have hfb : Fr wr bbn bbA bbk bbc bbm bbB bbj bbd by_ := ⟨hK3.wd bbf.out.1 hGZ.out, hK3.wd bbf.out.2 hGZ.out⟩
      have sc1 := hbyS.out.sm (by decide) (by decide)
      have sc2 := (hBq.out r j).sm (by decide) (by decide)
      have hww : Hid (SmN 600 600 (by_ * (Zb7 L r)[j]?.getD 0)) := Za (hbyS.out.mulN (hBq.out r j))
      replace hM3 := Za hM3
      replace hK3 := Za hK3
      replace f3 := Za f3
      clear f4 hbb
      go_wp2_with fail
      have hSv2 : Hid (∀ wx, Below wr.heap.size wr wx -> wx.cell? ⟨gbb, 0, none⟩ = some (.bool bbn) /\ wx.cell? ⟨gbb, 1, none⟩ = some (.slice bbA bbk bbc) /\ wx.cell? ⟨gbb, 2, none⟩ = some (.bool bbm) /\ wx.cell? ⟨gbb, 3, none⟩ = some (.slice bbB bbj bbd) /\ wx.cell? ⟨go, r, none⟩ = some (.slice (some ⟨r2.g, 0, none⟩) m r2.c) /\ wx.cell? ⟨r2.g, j * 4, none⟩ = some (.bool n4) /\ wx.cell? ⟨r2.g, j * 4 + 1, none⟩ = some (.slice A4 k4 c4) /\ wx.cell? ⟨r2.g, j * 4 + 2, none⟩ = some (.bool m4) /\ wx.cell? ⟨r2.g, j * 4 + 3, none⟩ = some (.slice B4 j4 d4)) := Za (fun wx hbx => ⟨Zb hbx x0, Zb hbx x1, Zb hbx x2, Zb hbx x3, Zb hbx c1', Zb hbx q0, Zb hbx q1, Zb hbx q2, Zb hbx q3'⟩)
      have hr2 : Below wr.heap.size wr wr.drew := Zf (Below.refl _ _) 1
      refine wp_heldS [] hmx hSv2 hr2 (fun hxs2 => ?_)
      refine Zij 8 [0, 1, 2, 3, 4, 5, 6, 7] rfl (by kernel_rfl) (hSv2.out _ hr2) ?_
      iterate 8 (refine tk1 (v := ?_) rfl (Or.inl ⟨by kernel_rfl, ?_⟩) ?_; rotate_left; (· intro W2 hSw; (try dsimp only at hSw); go_simp; try with_reducible rfl); try simp only [Act.put, Zfg, Zfj, Zfc, putG_a, putG_s, putG_z])
      refine tk0 ?_
      refine Zch [(8, 68), (9, 59), (10, 69), (12, 10)] (fun i => match i with | 9 => [11] | _ => []) [(8, 68), (9, 59), (11, 70), (10, 69), (12, 10)] (Z4 wr.heap.size (by_ * (Zb7 L r)[j]?.getD 0) 8 9 10 11 12 11) 2 (by kernel_rfl) (fun _ _ _ _ _ hb h => Zdo hb h) (fun wx h => hSv2.out _ (hr2.trans (h.mono hr2.size))) ?hop2 ?hfin2
      case hop2 =>
       intro p hp
       simp only [List.mem_cons, List.not_mem_nil, or_false] at hp
       simp only [List.map_cons, List.map_nil, Zaz, Act.put, Zfg, Zfj, Zfc]
       rcases hp with rfl | rfl | rfl | rfl
       ·intro ν wx hb hP
        have hbx := hr2.trans (hb.mono hr2.size)
        refine Z2 (i := 8) rfl (fun K hK => ?_)
        go_simp
        refine (Ziw bbn bbm n4 m4 bbA bbB A4 B4 bbk bbc bbj bbd k4 c4 j4 d4 _ _ wx (hfb.below hbx) (hf4.below hbx) sc1 sc2).mono ?_
        rintro e w5 ⟨hb5, na5, A5, k5, c5, nb5, B5, m5, d5, rfl, hf5⟩
        exact hK.out _ _ ⟨_, rfl, (by simp only [Z4]; exact ⟨_, _, _, _, _, _, _, _, rfl, hf5⟩), hb5, trivial⟩
       ·intro ν wx hb hP
        have h0 := hP (8, 68) (by simp) (by kernel_rfl)
        simp only [Z4] at h0
        obtain ⟨na5, A5, k5, c5, nb5, B5, m5, d5, hν, hf5⟩ := h0
        rw [hν]
        refine Z2 (i := 9) rfl (fun K hK => ?_)
        go_simp
        refine hK.out _ _ ⟨_, rfl, (by simp only [Z4]; exact ⟨_, _, _, _, _, _, _, _, rfl, hf5⟩), Below.refl _ _, ?_⟩
        exact ⟨_, .int .i64 0, rfl, Or.inl ⟨by kernel_rfl, fun W2 _ => by go_simp⟩, by simp [Z4], trivial⟩
       ·intro ν wx hb hP
        have h0 := hP (9, 59) (by simp) (by kernel_rfl)
        simp only [Z4] at h0
        obtain ⟨na5, A5, k5, c5, nb5, B5, m5, d5, hν, hf5⟩ := h0
        rw [hν]
        refine Z2 (i := 10) rfl (fun K hK => ?_)
        go_simp
        exact hK.out _ _ ⟨_, rfl, (by simp only [Z4]; exact ⟨_, _, _, _, _, _, _, _, rfl, hf5⟩), Below.refl _ _, trivial⟩
       ·intro ν wx hb hP
        refine Z2 (i := 12) rfl (fun K hK => ?_)
        go_simp
        exact hK.out _ _ ⟨_, rfl, (by simp only [Z4]; exact ⟨_, rfl, hb.size, Blk.new _ _ _⟩), (Below.refl _ _).alloc (Nat.le_refl _) _, trivial⟩
      case hfin2 =>
       intro ν wx hb hP
       have h0 := hP (8, 68) (by simp)
       have h1 := hP (9, 59) (by simp)
       have h2 := hP (10, 69) (by simp)
       have h3 := hP (11, 70) (by simp)
       have h4 := hP (12, 10) (by simp)
       simp only [Z4] at h0 h1 h2 h4
       obtain ⟨a0, a1, a2, a3, a4, a5, a6, a7, h0, -⟩ := h0
       obtain ⟨b0', b1', b2', b3', b4', b5', b6', b7', h1, -⟩ := h1
       obtain ⟨wwn, wwA, wwk, wwc, wwm, wwB, wwj, wwd, h2, wwf⟩ := h2
       obtain ⟨gww, h4, kv, qv⟩ := h4
       simp only [List.map_cons, List.map_nil, Zaz, Act.put, Zfg, Zfj, Zfc]
       rw [h0, h1, h2, (show ν 70 = Value.int .i64 0 by simpa [Z4] using h3), h4]
       clear h0 h1 h2 h3 h4 hP ν
       have hbx := hr2.trans (hb.mono hr2.size)
       have qv4 := qv.four
       have kv2 : wr.heap.size <= gww := kv
       refine (Zx wwn wwA wwk wwc wwm wwB wwj wwd hbx kv2 qv).elim (fun Zww hq => ?_)
       have c0 := qv4.1
       have c1' := qv4.2.1
       have c2' := qv4.2.2.1
       have c3 := qv4.2.2.2.1
       have f0 := qv4.2.2.2.2.1
       have f1 := qv4.2.2.2.2.2.1
       have f2 := qv4.2.2.2.2.2.2.1
       have f3 := qv4.2.2.2.2.2.2.2
       have hZ := hq.1
       refine Ze (i := 13) rfl (by kernel_rfl) (fun K hK => ?_)
       go_simp
       (try rw [hZ])
       refine hK.out _ _ (fun _ => hSv2.out _ hq.2.1) ?_
       clear hK K
       try simp only [Act.put, Zfg, Zfj, Zfc]
       refine Zfh 1 [14] rfl (by kernel_rfl) (hSv2.out _ hq.2.1) ?_
       (refine tk1 (v := ?_) rfl (Or.inl ⟨by kernel_rfl, ?_⟩) ?_; rotate_left; (· intro W2 _; go_simp; try with_reducible rfl); try simp only [Act.put, Zfg, Zfj, Zfc, putG_a, putG_s, putG_z])
       refine tk0 ?_
       refine Zk (by kernel_rfl) ?_ _
       refine OnlyNormal.normal ?_
       have hbZww := hq.2.1
       have wwb := Za hq.2.2.1
       replace wwf := Za (Fr.keep wwf hq.2.2.2.1)
       clear hq hZ c0 c1' c2' c3 f0 f1 f2 f3 qv4 qv kv hbx hb hr2 hSv2 hxs2
       have hbx0 := hbZww
       have hM4 := hM3.out.below hbx0
       have hK4 := hK3.out.below hbx0
       have f5 := f3.out.below hbx0
       have hl3' := hl3.out
       obtain ⟨n5, A5, k5, c5, m5, B5, j5, d5, u0', u1', u2', u3', hf5⟩ := f5.at_ (i := j) (by rw [hl3']; exact hjm)
       have hf5c : q3[j]?.getD 0 = (Zb7 L i)[j]?.getD 0 := by
        have h1 := hq3.out j
        rw [if_neg (by omega)] at h1
        exact h1
       simp only [hf5c] at hf5
       have v0 := f5.frozen (j * 4)
       have v1 := f5.frozen (j * 4 + 1)
       have v2 := f5.frozen (j * 4 + 2)
       have v3 := f5.frozen (j * 4 + 3)
       have c0' := Zb hbx0 c0
       obtain ⟨y0, y1, y2, y3, -⟩ := wwb.out.four
       have sc3 := (hBq.out i j).sm (by decide) (by decide)
       have sc4 := hww.out.sm (by decide) (by decide)
       replace hM4 := Za hM4
       replace hK4 := Za hK4
       clear hf5c hl3' hbx0 q0 q1 q2 q3' x0 x1 x2 x3 hf4 hfb sc1 sc2 hM3 hK3 f3 f5 c0 c1' z0 z1
       go_wp2_with fail
       have hSv9 : Hid (∀ wx, Below Zww.heap.size Zww wx -> wx.cell? ⟨go, i, none⟩ = some (.slice (some ⟨ri.g, 0, none⟩) m ri.c) /\ wx.cell? ⟨ri.g, j * 4, none⟩ = some (.bool n5) /\ wx.cell? ⟨ri.g, j * 4 + 1, none⟩ = some (.slice A5 k5 c5) /\ wx.cell? ⟨ri.g, j * 4 + 2, none⟩ = some (.bool m5) /\ wx.cell? ⟨ri.g, j * 4 + 3, none⟩ = some (.slice B5 j5 d5) /\ wx.cell? ⟨gww, 0, none⟩ = some (.bool wwn) /\ wx.cell? ⟨gww, 1, none⟩ = some (.slice wwA wwk wwc) /\ wx.cell? ⟨gww, 2, none⟩ = some (.bool wwm) /\ wx.cell? ⟨gww, 3, none⟩ = some (.slice wwB wwj wwd)) := Za (fun wx hbx => ⟨Zb hbx c0', Zb hbx u0', Zb hbx u1', Zb hbx u2', Zb hbx u3', Zb hbx y0, Zb hbx y1, Zb hbx y2, Zb hbx y3⟩)
       have hr9 : Below Zww.heap.size Zww Zww.drew := Zf (Below.refl _ _) 1
       refine wp_heldS [18] hmx hSv9 hr9 (fun hxs9 => ?_)
       refine Zij 13 [0, 1, 2, 3, 4, 5, 6, 7, 8, 9, 10, 11, 12] rfl (by kernel_rfl) (hSv9.out _ hr9) ?_
       iterate 13 (refine tk1 (v := ?_) rfl (Or.inl ⟨by kernel_rfl, ?_⟩) ?_; rotate_left; (· intro W2 hSw; (try dsimp only at hSw); go_simp; try with_reducible rfl); try simp only [Act.put, Zfg, Zfj, Zfc, putG_a, putG_s, putG_z])
       refine tk0 ?_
       refine Ze (i := 13) rfl (by kernel_rfl) (fun K hK => ?_)
       go_simp
       refine (Zlr n5 m5 wwn wwm A5 B5 wwA wwB k5 c5 j5 d5 wwk wwc wwj wwd _ _ Zww.drew (hf5.below hr9) (wwf.out.below hr9) sc3 sc4).mono ?_
       rintro e w5 ⟨hb5, n6, A6, k6, c6, m6, B6, j6, d6, rfl, hf6⟩
       have hr10 := hr9.trans (hb5.mono hr9.size)
       refine hK.out _ _ (fun _ => hSv9.out _ hr10) ?_
       clear hK K
       try simp only [Act.put, Zfg, Zfj, Zfc]
       refine Zfh 4 [14, 15, 16, 17] rfl (by kernel_rfl) (hSv9.out _ hr10) ?_
       iterate 4 (refine tk1 (v := ?_) rfl (Or.inl ⟨by kernel_rfl, ?_⟩) ?_; rotate_left; (· intro W2 _; go_simp; try with_reducible rfl); try simp only [Act.put, Zfg, Zfj, Zfc, putG_a, putG_s, putG_z])
       refine tk0 ?_
       have hb5' : Below Zww.heap.size Zww w5 := Zq hb5
       have hM5 := hM4.out.below hb5'
       obtain ⟨Z9, hZ9⟩ : ∃ W, Zf4 w5 ri.g j n6 A6 k6 c6 m6 B6 j6 d6 = W := ⟨_, rfl⟩
       have hZ9' := hZ9
       unfold Zf4 at hZ9'
       have hK9 : Hid (Kept (fun g => g ∈ L.map RF.g) Zbb Z9) := Za (by rw [<- hZ9]; exact Zlt (hK4.out.below hb5') (.inl hgi.out))
       have hM9 : Hid (MatB 40 45 Z9 go (L2.set i ⟨ri.g, ri.c, q3.set j ((Zb7 L i)[j]?.getD 0 - by_ * (Zb7 L r)[j]?.getD 0)⟩)) := Za (by
        have h1 := hM5.set_ (i := i) (r := ⟨ri.g, ri.c, q3⟩) (by rw [List.getElem?_set, if_pos rfl, if_pos (by rw [hl2.out]; exact hin)]) (k := j) (by rw [show RF.q ⟨ri.g, ri.c, q3⟩ = q3 from rfl, hl3.out]; exact hjm) hf6
        rw [List.set_set] at h1
        rw [<- hZ9]; exact h1)
       have f0 := Zh hb5' u0' v0
       have f1 := Zh hb5' u1' v1
       have f2 := Zh hb5' u2' v2
       have f3 := Zh hb5' u3' v3
       have g0 := Zb hb5' u0'
       have g1 := Zb hb5' u1'
       have g2 := Zb hb5' u2'
       have g3 := Zb hb5' u3'
       clear hM5 hZ9
       refine Zt (i := 18) rfl (by kernel_rfl) (by kernel_rfl) (fun K hK => ?_)
       go_simp
       (try rw [hZ9'])
       refine hK.out _ _ ?_
       clear hK K
       try simp only [Act.put, Zfg, Zfj, Zfc]
       refine Zk (by kernel_rfl) ?_ _
       refine OnlyNormal.normal ?_
       clear hZ9' f0 f1 f2 f3 g0 g1 g2 g3 hb5 hb5' hr9 hr10 hSv9 hxs9 u0' u1' u2' u3' y0 y1 y2 y3 v0 v1 v2 v3 hf6 hf5 hM4 hK4 c0'
       go_wp2_with fail
       go_roundg (m - (j + 1))
       case measure => omega
       case rel => exact ⟨j + 1, _, by omega, by go_num, by omega, hM9.out, Za (by rw [List.length_set]; exact hl3.out), Za (Zst (by rw [hl3.out, hmQ.out i hin]) hcj (by rw [hmQ.out i hin]; exact hjm) rfl hq3.out), hK9.out⟩
end Go.Proofs.YtigdclhagmnopaaGreat
