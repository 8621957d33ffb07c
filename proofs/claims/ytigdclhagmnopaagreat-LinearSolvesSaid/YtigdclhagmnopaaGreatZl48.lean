/- Package linear: wider. Solving by elimination: the -/
import Derived.Lib.SlBuf
import Derived.Test.YtigdclhagmnopaaGreatZl32
set_option maxRecDepth 100000
set_option maxHeartbeats 8000000
set_option linter.unusedSimpArgs false
set_option linter.unusedVariables false
namespace Go.Proofs.YtigdclhagmnopaaGreat
open Go.RowKit
attribute [local go_sem] Zi
theorem Zn2 (k : Nat) : List.replicate k (Value.slice none 0 0) = Zaj (List.replicate k Zau) := by
 rw [Zbv, List.map_replicate]; rfl
theorem Zkl (k : Nat) : madeCells (Value.agg #[.bool false, .slice none 0 0, .bool false, .slice none 0 0]).cells (k * 4) = Z0 (List.replicate k Zal) := by
 apply Array.toList_inj.1
 show (madeCells #[.bool false, .slice none 0 0, .bool false, .slice none 0 0] (k * 4)).toList = Zm (List.replicate k Zal)
 apply List.ext_getElem?
 intro i
 by_cases h : i < k * 4
 ·have he : (List.replicate k Zal)[i / 4]? = some Zal := by rw [List.getElem?_replicate, if_pos (by omega)]
  have hc := Zei he
  have h4 : i % 4 = 0 \/ i % 4 = 1 \/ i % 4 = 2 \/ i % 4 = 3 := by omega
  have hm : (madeCells #[.bool false, .slice none 0 0, .bool false, .slice none 0 0] (k * 4)).toList[i]? = some ((#[.bool false, .slice none 0 0, .bool false, .slice none 0 0] : Array Value)[i % 4]?.getD default) := by
   unfold madeCells
   simp [h]
  rw [hm]
  rcases h4 with h2 | h2 | h2 | h2
  ·rw [show i / 4 * 4 = i by omega] at hc; rw [hc.1, h2]; rfl
  ·rw [show i / 4 * 4 + 1 = i by omega] at hc; rw [hc.2.1, h2]; rfl
  ·rw [show i / 4 * 4 + 2 = i by omega] at hc; rw [hc.2.2.1, h2]; rfl
  ·rw [show i / 4 * 4 + 3 = i by omega] at hc; rw [hc.2.2.2, h2]; rfl
 ·have a1 : (Zm (List.replicate k Zal))[i]? = none := List.getElem?_eq_none (by rw [Zp]; simp; omega)
  have a2 : (madeCells #[.bool false, .slice none 0 0, .bool false, .slice none 0 0] (k * 4)).toList[i]? = none := List.getElem?_eq_none (by unfold madeCells; simp; omega)
  rw [a1, a2]
theorem Ztn {P : Program} (t e : TypeId) {i : TypeInfo} (ht : P.underlying t = some (.slice e)) (hi : P.info? e = some i) (hz : i.zero = some (.agg #[.bool false, .slice none 0 0, .bool false, .slice none 0 0])) (hs : i.size = 4) (hb : i.bytes = 64)
    (x : Int) (n : Nat) (hx : x = n) (hn : n <= 1000000000000) (W : World) :
    (Instr.makeSlice t (.int .i64 x) (.int .i64 x)).run P W = .ok (.slice (some ⟨W.heap.size, 0, none⟩) n n) (W.alloc (.cells (Z0 (List.replicate n Zal)) e)) := by
 subst hx
 have hr := run_make (P := P) W t e i _ ht hi hz .i64 .i64 n n (by omega) (by omega) (by rw [hb]; omega) (by omega)
 simp only [Int.toNat_natCast] at hr
 rw [hr, hs, Zkl]
theorem Zqo {P : Program} (t e : TypeId) {i : TypeInfo} (ht : P.underlying t = some (.slice e)) (hi : P.info? e = some i) (hz : i.zero = some (.slice none 0 0)) (hs : i.size = 1) (hb : i.bytes = 24)
    (x : Int) (n : Nat) (hx : x = n) (hn : n <= 1000000000000) (W : World) :
    (Instr.makeSlice t (.int .i64 x) (.int .i64 x)).run P W = .ok (.slice (some ⟨W.heap.size, 0, none⟩) n n) (W.alloc (.cells (Z1 (List.replicate n Zau)) e)) := by
 subst hx
 have hr := run_make (P := P) W t e i _ ht hi hz .i64 .i64 n n (by omega) (by omega) (by rw [hb]; omega) (by omega)
 simp only [Int.toNat_natCast] at hr
 rw [hr, hs, Nat.mul_one]
 have : madeCells (Value.slice none 0 0).cells n = Z1 (List.replicate n Zau) := by
  apply Array.toList_inj.1
  show (madeCells #[.slice none 0 0] n).toList = Zaj (List.replicate n Zau)
  rw [<- Zn2]
  apply List.ext_getElem?
  intro j
  unfold madeCells
  by_cases h : j < n
  ·simp [h, Nat.mod_one]
  ·simp [h]
 rw [this]
section
variable {P : Program} (w : World)
theorem Zlj (dT sT ty elem : TypeId) (i : TypeInfo) (g o dLen dCap : Nat) (a : Addr) (sLen sCap : Nat) (cur : Array Value) (t : TypeId) (cs : List Value)
    (hu : P.underlying dT = some (.slice elem)) (hi : P.info? elem = some i) (hg : w.heap[g]? = some (.cells cur t (0, 0))) (hn : cs.length = Nat.min sLen dLen * i.size)
    (hsrc : ∀ j v, cs[j]? = some v -> w.cell? (a.add j) = some v) (hfit : o + cs.length <= cur.size) (h1 : ∀ v ∈ cs, v.oneCell' = true) :
    (Builtin.copy_ #[dT, sT] ty #[.slice (some ⟨g, o, none⟩) dLen dCap, .slice (some a) sLen sCap]).run P w =
     .ok (goInt (Nat.min sLen dLen)) (w.setRow g (cur.toList.take o ++ cs ++ cur.toList.drop (o + cs.length)).toArray) := by
 have hl := run_loadCells_list (P := P) w a cs hsrc
 have hst := run_storeCells_at P g o t cs 0 cur w hg (by simpa using hfit) h1
 simp [Builtin.copy_, run_underlying hu, Builtin.lenOf, Builtin.firstCells, sizeOf, typeInfo, hi, <- hn, hl, hst]
theorem Zg5 (t ty e : TypeId) (i : TypeInfo) (hu : P.underlying t = some (.slice e)) (hi : P.info? e = some i) (hs : i.size = 4) {tF : TypeId} {g k d dc : Nat} {es : List FE} (hb : Blk w g tF (Z0 es))
    (B : Nat) (A : Option Addr) (m c : Nat) (fs : List FE) (hr : Reads w B 4 A m (Zm fs)) (hm : fs.length = m) (hm0 : 0 < m) (hd : m <= d) (hk : k + m <= es.length) :
    (Builtin.copy_ #[t, t] ty #[.slice (some ⟨g, k * 4, none⟩) d dc, .slice A m c]).run P w = .ok (goInt m) (w.setRow g (Z0 (es.take k ++ fs ++ es.drop (k + m)))) := by
 obtain ⟨ad, rfl, _, hc⟩ := hr.2 hm0
 have hl : (Zm fs).length = m * 4 := by rw [Zp, hm]
 have := Zlj (P := P) w t t ty e i g (k * 4) d dc ad m c _ tF (Zm fs) hu hi hb (by rw [hl, hs, show Nat.min m d = m from Nat.min_eq_left hd]) hc
  (by rw [hl]; show k * 4 + m * 4 <= (Z0 es).size; unfold Z0; simp only [List.size_toArray]; rw [Zp]; omega) (Zhi fs)
 rw [this, show Nat.min m d = m from Nat.min_eq_left hd]
 congr 2
 unfold Z0
 have e1 : Zm (es.take k) = (Zm es).take (k * 4) := by
  have h1 : Zm es = Zm (es.take k) ++ Zm (es.drop k) := by rw [<- Zae, List.take_append_drop]
  have h2 : (Zm (es.take k)).length = k * 4 := by rw [Zp, List.length_take, Nat.min_eq_left (by omega)]
  rw [h1, <- h2, List.take_left]
 have e2 : Zm (es.drop (k + m)) = (Zm es).drop (k * 4 + m * 4) := by
  have h1 : Zm es = Zm (es.take (k + m)) ++ Zm (es.drop (k + m)) := by rw [<- Zae, List.take_append_drop]
  have h2 : (Zm (es.take (k + m))).length = k * 4 + m * 4 := by rw [Zp, List.length_take, Nat.min_eq_left (by omega)]; omega
  rw [h1, <- h2, List.drop_left]
 rw [hl, Zae, Zae, e1, e2]
end
theorem Kept.setRow {G : Nat -> Prop} {w0 w : World} (h : Kept G w0 w) {g : Nat} (hg : G g \/ w0.heap.size <= g) (cs : Array Value) : Kept G w0 (w.setRow g cs) :=
 ⟨h.os, h.tape, h.output, by simp [World.setRow]; exact h.size, fun k hk hG => (setRow_other w g k cs (by rcases hg with hg | hg; exact fun e => hG (e ▸ hg); omega)).trans (h.block k hk hG)⟩
theorem Zlb {w : World} {g : Nat} {t : TypeId} {cs cs' : Array Value} (h : Blk w g t cs) : Blk (w.setRow g cs') g t cs' := setRow_heap w g _ _ t _ h
theorem Zk8 {w : World} {g k : Nat} {t : TypeId} {cs cs' : Array Value} (h : Blk w k t cs) (hne : k ≠ g) : Blk (w.setRow g cs') k t cs := (setRow_other w g k _ hne).trans h
theorem FL.readsK {w : World} {A : Option Addr} {n c : Nat} {qs : List Rat} (h : FL w A n c qs) {go : Nat} {t : TypeId} {rs : List RS} (hb : Blk w go t (Z1 rs)) :
    ∃ fs : List FE, fs.length = n /\ fs.map FE.q = qs /\ ∀ w', Kept (fun k => k = go) w w' -> Reads w' w'.heap.size 4 A n (Zm fs) /\ ∀ e ∈ fs, e.in_ w' := by
 obtain ⟨es, h1, h2, h3, h4, h5, h6⟩ := h
 refine ⟨es, h1, h5, fun w' hk => ?_⟩
 have hG : ∀ k, k = go -> ∃ t cs, Blk w k t cs /\ NoLimb cs := fun k hk => ⟨t, Z1 rs, by rw [hk]; exact hb, Zap _⟩
 refine ⟨⟨by rw [Zp, h1], fun hn => ?_⟩, fun e he => ⟨hk.wd (h4 e he).1 hG, hk.wd (h4 e he).2 hG⟩⟩
 obtain ⟨g, o, e1, hc⟩ := h6 hn
 have hne : g ≠ go := fun e => by
  have h0 := (hc 0 es[0] (List.getElem?_eq_getElem (by omega))).1
  rw [e, hb.cell] at h0
  unfold Z1 at h0
  rw [Zbv] at h0
  simp only [List.getElem?_toArray, List.getElem?_map] at h0
  cases hx : rs[o + 0 * 4]? with
  | none => rw [hx] at h0; cases h0
  | some r => rw [hx] at h0; cases h0
 have hcell : ∀ (i : Nat) (v : Value), w.cell? ⟨g, i, none⟩ = some v -> w'.cell? ⟨g, i, none⟩ = some v := fun i v hv => by
  rw [<- hv]
  exact World.cell?_of_block (hk.block g (Zr hv) hne)
 refine ⟨⟨g, o, none⟩, e1, ?_, fun j u hu => ?_⟩
 ·have := (hc 0 es[0] (List.getElem?_eq_getElem (by omega))).1
  exact Nat.lt_of_lt_of_le (Zr this) hk.size
 ·rw [Zi]
  have hj : j < es.length * 4 := by
   have := (List.getElem?_eq_some_iff.1 hu).1
   rwa [Zp] at this
  have he := List.getElem?_eq_getElem (show j / 4 < es.length by omega)
  have hg := Zei he
  have hm := hc (j / 4) _ he
  have h4 : j % 4 = 0 \/ j % 4 = 1 \/ j % 4 = 2 \/ j % 4 = 3 := by omega
  rcases h4 with h2 | h2 | h2 | h2
  ·rw [show j / 4 * 4 = j by omega] at hg hm; rw [hg.1] at hu; cases hu; exact hcell _ _ hm.1
  ·rw [show j / 4 * 4 + 1 = j by omega] at hg hm; rw [hg.2.1] at hu; cases hu; exact hcell _ _ hm.2.1
  ·rw [show j / 4 * 4 + 2 = j by omega] at hg hm; rw [hg.2.2.1] at hu; cases hu; exact hcell _ _ hm.2.2.1
  ·rw [show j / 4 * 4 + 3 = j by omega] at hg hm; rw [hg.2.2.2] at hu; cases hu; exact hcell _ _ hm.2.2.2
theorem MatB.mfl {tS tF : TypeId} {w : World} {go n c : Nat} {L : List RF} (h : MatB tS tF w go L) (hl : L.length = n) (hc : n <= c) (hm : c <= maxLen) : MFL w (some ⟨go, 0, none⟩) n c (L.map RF.q) := by
 refine ⟨by rw [List.length_map, hl], hc, hm, fun _ => ⟨go, 0, rfl, fun k q hq => ?_⟩⟩
 rw [List.getElem?_map] at hq
 obtain ⟨r, hr, rfl⟩ := Option.map_eq_some_iff.1 hq
 have h1 := (h.cell hr).1
 obtain ⟨h2, h3, h4⟩ := h.row hr
 exact ⟨_, _, _, by rw [Nat.zero_add]; exact h1, h2.fl h3 h4⟩
theorem Zlu (F : FuncId) (cap : Value) (A : Option Addr) (n c m s : Nat) (Q : List (List Rat)) (S : Nat -> List Rat) (w : World) (h : MFL w A n c Q) (hn9 : n <= 900) (hm : ∀ i, i < n -> (Q[i]?.getD []).length = m) (hm0 : 0 < m) (hm9 : m <= 900) (hs0 : 0 < s) (hs9 : s <= 900) (hS : ∀ i, i < n -> (S i).length = s)
    (hcf : ∀ (x : Value) (W : World), (callFunc F #[x, cap]).run Tryz.prog W = .ok (.enter F #[x, cap]) W)
    (hF : ∀ (W : World) (i : Nat), Below w.heap.size w W -> i < n -> Calls Tryz.prog F #[.int .i64 i, cap] W fun e W' => ∃ A c, e = .returned (.slice A s c) /\ Below W.heap.size W W' /\ FL W' A s c (S i)) :
    Calls Tryz.prog 76 #[.slice A n c, .func (.func F) #[] #[cap]] w fun e w' => ∃ go L, e = .returned (.slice (some ⟨go, 0, none⟩) n n) /\ Below w.heap.size w w' /\ w.heap.size <= go /\ L.length = n /\ MatB 40 45 w' go L /\ L.map RF.q = (List.range n).map fun i => Q[i]?.getD [] ++ S i := by
 obtain ⟨iF, hi, hz0, hz1, hz2⟩ := info_parts Zcq
 obtain ⟨iS, ki, kz0, kz1, kz2⟩ := info_parts Zfl
 have hl := Za h.1
 have hnc := h.2.1
 have hcm := h.2.2.1
 unfold maxLen at hcm
 have hne : (40 : TypeId) ≠ 45 := by decide
 replace hm := Za hm
 replace h := Za h
 replace hS := Za hS
 replace hF := Za hF
 obtain ⟨W0, hW0⟩ : ∃ X, w.alloc (.cells (Z1 (List.replicate n Zau)) 40) = X := ⟨_, rfl⟩
 obtain ⟨go, hgo⟩ : ∃ g, w.heap.size = g := ⟨_, rfl⟩
 have q0 : Hid (Blk W0 go 40 (Z1 (List.replicate n Zau))) := Za (by rw [<- hW0, <- hgo]; exact Blk.new _ _ _)
 have hB0 : Hid (Below w.heap.size w W0) := Za (by rw [<- hW0]; exact (Below.refl _ _).alloc (Nat.le_refl _) _)
 have s0 : Hid (W0.heap.size = go + 1) := Za (by rw [<- hW0, <- hgo]; simp)
 have hmk := Zqo (P := Tryz.prog) 22 40 Tryz.underlying22 ki kz0 kz1 kz2 (n : Int) n rfl (by omega)
 go_enter Tryz.func76, Tryz.ntmps76
 go_wp2_with fail
 (try rw [hW0])
 (try rw [hgo])
 replace hgo := Za hgo
 clear hW0 hmk
 go_loopg [14] n (fun k iv wr => ∃ (i : Nat) (L : List RF), i + k = n /\ iv = .int .i64 i /\ Hid (L.length = i) /\ Blk wr go 40 (Z1 (L.map RF.rs ++ List.replicate (n - i) Zau)) /\ Hid (∀ r ∈ L, (FOwn 45 wr r.g r.q /\ r.q.length <= r.c /\ r.c <= maxLen) /\ W0.heap.size <= r.g) /\ Hid ((L.map RF.g).Nodup) /\ Hid (L.map RF.q = (List.range i).map fun i => Q[i]?.getD [] ++ S i) /\ Kept (fun k => k = go) W0 wr)
 case atStart => exact ⟨0, [], by omega, rfl, Za rfl, q0.out, Za (fun r hr => (by cases hr)), Za List.nodup_nil, Za rfl, Kept.refl _ _⟩
 case round =>
  obtain ⟨i, L, hik, rfl, hLl, hbo, hrows, hnd, hLq, hK⟩ := hrel
  have hBx : Below w.heap.size w wr := hB0.out.trans (hK.to_below (fun k hk => by rw [hk, hgo.out]; exact Nat.le_refl _) hB0.out.size)
  cases gk with
  | zero =>
   obtain rfl : i = n := by omega
   have t1 : decide ((i : Int) < (i : Int)) = false := by simp
   replace hbo := Za hbo
   go_wp2_with fail
   go_ret
   refine ⟨go, L, rfl, hBx, by rw [hgo.out]; exact Nat.le_refl _, hLl.out, ⟨⟨_, hbo.out⟩, fun r hr => (hrows.out r hr).1, ?_⟩, hLq.out⟩
   refine List.nodup_cons.2 ⟨fun hmm => ?_, hnd.out⟩
   obtain ⟨r, hr, e⟩ := List.mem_map.1 hmm
   have := (hrows.out r hr).2
   have := s0.out
   omega
  | succ j =>
   obtain rfl : j = n - (i + 1) := by omega
   have hin : i < n := by omega
   have t1 : decide ((i : Int) < (n : Int)) = true := decide_eq_true (by omega)
   have bi : (i : Int) < (n : Int) := by omega
   obtain ⟨ga, oa, A1, n1, c1, rfl, k0, hF0⟩ := (h.out.below hBx).at_ hin
   have hn1 : n1 = m := by rw [<- hF0.len]; exact hm.out i hin
   subst hn1
   replace hF0 := Za hF0
   replace hbo := Za hbo
   go_wp2_with fail
   refine (hF.out wr i hBx hin).mono ?_
   rintro e w1 ⟨As, cs, rfl, hb1, hFS⟩
   have hbo1 := Zc hb1 hbo.out
   obtain ⟨fs, hfl, hfq, hRf⟩ := (hF0.out.below hb1).readsK hbo1
   obtain ⟨gs, hgl, hgq, hRg⟩ := hFS.readsK hbo1
   obtain ⟨gN, hgN⟩ : ∃ g, w1.heap.size = g := ⟨_, rfl⟩
   obtain ⟨W2, hW2⟩ : ∃ X, w1.alloc (.cells (Z0 (List.replicate (n1 + s) Zal)) 45) = X := ⟨_, rfl⟩
   have hb2 : Below w1.heap.size w1 W2 := by rw [<- hW2]; exact (Below.refl _ _).alloc (Nat.le_refl _) _
   have hbN : Blk W2 gN 45 (Z0 (List.replicate (n1 + s) Zal)) := by rw [<- hW2, <- hgN]; exact Blk.new _ _ _
   have hbo2 := Zc hb2 hbo1
   have hgo1 := hbo1.lt
   have hgogN : go < gN := by omega
   have x0 := hbo2.cell i
   have x1 := hbo2.frozen i
   rw [show (Z1 (L.map RF.rs ++ List.replicate (n - i) Zau))[i]? = some (.slice none 0 0) from Zb2 (e := Zau) (by rw [List.getElem?_append_right (by rw [List.length_map, hLl.out]; exact Nat.le_refl _), List.length_map, hLl.out, Nat.sub_self, List.getElem?_replicate, if_pos (by omega)])] at x0
   have hqs : (Q[i]?.getD [] ++ S i).length = n1 + s := by rw [List.length_append, hm.out i hin, hS.out i hin]
   obtain ⟨W3, hW3⟩ : ∃ X, W2.setCell ⟨go, i, none⟩ (.slice (some ⟨gN, 0, none⟩) (n1 + s) (n1 + s)) = X := ⟨_, rfl⟩
   have hset : (L.map RF.rs ++ List.replicate (n - i) Zau).set i ⟨some ⟨gN, 0, none⟩, n1 + s, n1 + s⟩ = (L ++ [RF.mk gN (n1 + s) (Q[i]?.getD [] ++ S i)]).map RF.rs ++ List.replicate (n - (i + 1)) Zau := by
    rw [List.set_append_right _ _ (by rw [List.length_map, hLl.out]; exact Nat.le_refl _), List.length_map, hLl.out, Nat.sub_self, show n - i = n - (i + 1) + 1 by omega, List.replicate_succ, List.set_cons_zero, List.map_append, List.append_assoc]
    simp only [List.map_cons, List.map_nil, RF.rs, hqs]
    rfl
   have hbo3 : Blk W3 go 40 (Z1 ((L ++ [RF.mk gN (n1 + s) (Q[i]?.getD [] ++ S i)]).map RF.rs ++ List.replicate (n - (i + 1)) Zau)) := by
    have := hbo2.set_ i (.slice (some ⟨gN, 0, none⟩) (n1 + s) (n1 + s))
    rw [Zcp ⟨some ⟨gN, 0, none⟩, n1 + s, n1 + s⟩, hW3, hset] at this
    exact this
   have hbN3 : Blk W3 gN 45 (Z0 (List.replicate (n1 + s) Zal)) := by rw [<- hW3]; exact hbN.far (by show gN ≠ go; omega) _
   have hk3 : Kept (fun k => k = go) w1 W3 := by
    rw [<- hW3]
    exact Kept.set_ (G := fun k => k = go) (Kept.of_below hb2) (p := ⟨go, i, none⟩) (Or.inl rfl) _
   have hget : ∀ W, Blk W go 40 (Z1 ((L ++ [RF.mk gN (n1 + s) (Q[i]?.getD [] ++ S i)]).map RF.rs ++ List.replicate (n - (i + 1)) Zau)) -> W.cell? ⟨go, i, none⟩ = some (.slice (some ⟨gN, 0, none⟩) (n1 + s) (n1 + s)) := fun W hW => by
    rw [hW.cell]
    refine Zb2 (e := ⟨some ⟨gN, 0, none⟩, n1 + s, n1 + s⟩) ?_
    rw [<- hset, List.getElem?_set_self (by simp [hLl.out]; omega)]
   have x3 := hget W3 hbo3
   have hcp1 := fun ty => Zg5 (P := Tryz.prog) W3 40 ty 45 iF Tryz.underlying40 hi hz1 hbN3 W3.heap.size A1 n1 c1 fs (hRf W3 hk3).1 hfl hm0 (d := n1 + s) (dc := n1 + s) (k := 0) (by omega) (by simp)
   rw [Nat.zero_mul, List.take_zero, List.nil_append, Nat.zero_add, List.drop_replicate, Nat.add_sub_cancel_left] at hcp1
   obtain ⟨W4, hW4⟩ : ∃ X, W3.setRow gN (Z0 (fs ++ List.replicate s Zal)) = X := ⟨_, rfl⟩
   rw [hW4] at hcp1
   have hbN4 : Blk W4 gN 45 (Z0 (fs ++ List.replicate s Zal)) := by rw [<- hW4]; exact Zlb hbN3
   have hbo4 := show Blk W4 go 40 _ by rw [<- hW4]; exact Zk8 hbo3 (by omega)
   have hk4 : Kept (fun k => k = go) w1 W4 := by rw [<- hW4]; exact hk3.setRow (.inr (by omega)) _
   have x4 := hget W4 hbo4
   have hcp2 := fun ty => Zg5 (P := Tryz.prog) W4 40 ty 45 iF Tryz.underlying40 hi hz1 hbN4 W4.heap.size As s cs gs (hRg W4 hk4).1 hgl hs0 (d := s) (dc := s) (k := n1) (Nat.le_refl _) (by simp [hfl])
   rw [List.take_left' hfl, show n1 + s = (fs ++ List.replicate s Zal).length by simp [hfl], List.drop_length, List.append_nil] at hcp2
   obtain ⟨W5, hW5⟩ : ∃ X, W4.setRow gN (Z0 (fs ++ gs)) = X := ⟨_, rfl⟩
   rw [hW5] at hcp2
   have hbN5 : Blk W5 gN 45 (Z0 (fs ++ gs)) := by rw [<- hW5]; exact Zlb hbN4
   have hbo5 := show Blk W5 go 40 _ by rw [<- hW5]; exact Zk8 hbo4 (by omega)
   have hk5 : Kept (fun k => k = go) w1 W5 := by rw [<- hW5]; exact hk4.setRow (.inr (by omega)) _
   have hmk := Ztn (P := Tryz.prog) 40 45 Tryz.underlying40 hi hz0 hz1 hz2 ((n1 : Int) + (s : Int)) (n1 + s) (by omega) (by omega)
   have bx : (i : Int) < (n : Int) := bi
   have hFO : FOwn 45 W5 gN (Q[i]?.getD [] ++ S i) := ⟨fs ++ gs, [], by rw [List.append_nil]; exact hbN5, fun e he => by
    rcases List.mem_append.1 he with he | he
    ·exact (hRf W5 hk5).2 e he
    ·exact (hRg W5 hk5).2 e he, by rw [List.map_append, hfq, hgq]⟩
   have hGw : ∀ k, k = go -> ∃ t cs, Blk wr k t cs /\ NoLimb cs := fun k hk => ⟨_, _, hk ▸ hbo.out, Zap _⟩
   have hk05 : Kept (fun k => k = go) wr W5 := (Kept.of_below hb1).trans (hk5.mono (fun k _ h => h))
   have hrows5 : Hid (∀ r ∈ L ++ [RF.mk gN (n1 + s) (Q[i]?.getD [] ++ S i)], (FOwn 45 W5 r.g r.q /\ r.q.length <= r.c /\ r.c <= maxLen) /\ W0.heap.size <= r.g) := Za (fun r hr => by
    rcases List.mem_append.1 hr with hr | hr
    ·obtain ⟨⟨r1, r2⟩, r3⟩ := hrows.out r hr
     have := s0.out
     exact ⟨⟨r1.keptG hk05 (by omega) hGw, r2⟩, r3⟩
    ·rw [List.mem_singleton] at hr
     subst hr
     have h7 := hK.size
     have h8 := hb1.size
     exact ⟨⟨hFO, by show (Q[i]?.getD [] ++ S i).length <= n1 + s; omega, by show n1 + s <= maxLen; unfold maxLen; omega⟩, by show W0.heap.size <= gN; omega⟩)
   have hnd5 : Hid (((L ++ [RF.mk gN (n1 + s) (Q[i]?.getD [] ++ S i)]).map RF.g).Nodup) := Za (by
    rw [List.map_append, List.nodup_append]
    refine ⟨hnd.out, by simp, fun a ha b hb => ?_⟩
    obtain ⟨r, hr, rfl⟩ := List.mem_map.1 ha
    simp only [List.map_cons, List.map_nil, List.mem_singleton] at hb
    have h6 := (hrows.out r hr).1.1.lt
    have h7 := hb1.size
    omega)
   have hLq5 : Hid ((L ++ [RF.mk gN (n1 + s) (Q[i]?.getD [] ++ S i)]).map RF.q = (List.range (i + 1)).map fun i => Q[i]?.getD [] ++ S i) := Za (by
    rw [List.map_append, hLq.out, List.range_succ, List.map_append]; rfl)
   have hK5 : Hid (Kept (fun k => k = go) W0 W5) := Za (hK.trans hk05)
   have hLl5 : Hid ((L ++ [RF.mk gN (n1 + s) (Q[i]?.getD [] ++ S i)]).length = i + 1) := Za (by rw [List.length_append, hLl.out]; rfl)
   replace hbo5 := Za hbo5
   clear hRf hRg hfl hfq hgl hgq hbo1 hb2 hbN hbo2 hset hbo3 hbN3 hk3 hget hbN4 hbo4 hk4 hbN5 hk5 hFO hGw hk05 hFS hgo1
   go_wp2_with fail
   go_roundg (n - (i + 1))
   case measure => omega
   case rel => exact ⟨i + 1, L ++ [RF.mk gN (n1 + s) (Q[i]?.getD [] ++ S i)], by omega, by go_num, hLl5, hbo5.out, hrows5, hnd5, hLq5, hK5.out⟩
def upS (E X : Nat -> Nat -> Rat) (i k t : Nat) : Rat := E i k - Za5 t (fun j => if i < j then E i j * X j k else 0)
theorem Zov (E X : Nat -> Nat -> Rat) (i k t : Nat) (h : t <= i + 1) : upS E X i k t = E i k := by
 unfold upS
 have : Za5 t (fun j => if i < j then E i j * X j k else 0) = 0 := by
  induction t with
  | zero => rfl
  | succ t ih => simp only [Za5]; rw [ih (by omega), if_neg (by omega)]; grind
 rw [this]; grind
theorem Zof (E X : Nat -> Nat -> Rat) {i k t : Nat} (h : i < t) : upS E X i k (t + 1) = upS E X i k t - E i t * X t k := by
 unfold upS
 simp only [Za5]
 rw [if_pos h]; grind
def Zdw (E X : Nat -> Nat -> Rat) (n m : Nat) : Prop :=
 (∀ i, i < n -> E i i ≠ 0) /\ (∀ i k, i < n -> n <= k -> k < m -> X i k = upS E X i k n / E i i) /\ (∀ i j, SmN 300 300 (E i j)) /\ (∀ i k, SmN 300 300 (X i k)) /\ ∀ i k t, SmN 400 400 (upS E X i k t)
def Zcg (X : Nat -> Nat -> Rat) (n m : Nat) : List (List Rat) := (List.range n).map fun i => (List.range (m - n)).map fun c => X i (n + c)
theorem Zr4 {E X X' : Nat -> Nat -> Rat} {i k t : Nat} (h : ∀ j, i < j -> j < t -> X j k = X' j k) : upS E X i k t = upS E X' i k t := by
 unfold upS
 congr 1
 refine Zag fun j hj => ?_
 by_cases hij : i < j
 ·rw [if_pos hij, if_pos hij, h j hij hj]
 ·rw [if_neg hij, if_neg hij]
theorem Zsg {E E' X : Nat -> Nat -> Rat} {i k t : Nat} {c : Rat} (h : ∀ j, E' i j = c * E i j) : upS E' X i k t = c * upS E X i k t := by
 unfold upS
 have : Za5 t (fun j => if i < j then E' i j * X j k else 0) = c * Za5 t (fun j => if i < j then E i j * X j k else 0) := by
  have h1 := Zej (n := t) (fun j => if i < j then E i j * X j k else 0) (fun _ => 0) c 0
  rw [show c * Za5 t (fun j => if i < j then E i j * X j k else 0) = c * Za5 t (fun j => if i < j then E i j * X j k else 0) + 0 * Za5 t (fun _ => 0) by grind, <- h1]
  refine Zag fun j _ => ?_
  by_cases hij : i < j
  ·rw [if_pos hij, if_pos hij, h]; grind
  ·rw [if_neg hij, if_neg hij]; grind
 rw [this, h]; grind
theorem Zom {E X : Nat -> Nat -> Rat} {n i k t : Nat} (hX : ∀ j, n <= j -> X j k = 0) (h : n <= t) : upS E X i k t = upS E X i k n := by
 unfold upS
 congr 1
 induction t with
 | zero => obtain rfl : n = 0 := by omega
           rfl
 | succ t ih =>
  by_cases hn : n = t + 1
  ·rw [hn]
  ·simp only [Za5]
   rw [ih (by omega)]
   by_cases hit : i < t
   ·rw [if_pos hit, hX t (by omega)]; grind
   ·rw [if_neg hit]; grind
theorem Zj6 {n : Nat} (E : Nat -> Nat -> Rat) : ∀ t, t <= n -> ∃ X : Nat -> Nat -> Rat, (∀ i k, n - t <= i -> i < n -> X i k = upS E X i k n / E i i) /\ ∀ i k, n <= i -> X i k = 0
 | 0, _ => ⟨fun _ _ => 0, fun i k h1 h2 => by omega, fun _ _ _ => rfl⟩
 | t + 1, ht => by
  obtain ⟨X, h1, h2⟩ := Zj6 (n := n) E t (by omega)
  refine ⟨fun i k => if i = n - (t + 1) then upS E X i k n / E i i else X i k, fun i k hi hn => ?_, fun i k hi => ?_⟩
  ·have hc : upS E (fun i k => if i = n - (t + 1) then upS E X i k n / E i i else X i k) i k n = upS E X i k n := Zr4 fun j hj hjn => by
     rw [if_neg (by omega)]
   rw [hc]
   show (if i = n - (t + 1) then upS E X i k n / E i i else X i k) = _
   by_cases hit : i = n - (t + 1)
   ·rw [if_pos hit]
   ·rw [if_neg hit]; exact h1 i k (by omega) hn
  ·show (if i = n - (t + 1) then _ else _) = _
   rw [if_neg (by omega)]; exact h2 i k hi
theorem Zpa {n : Nat} {E X : Nat -> Nat -> Rat} {i k : Nat} (hi : i < n) (hlow : ∀ j, j < i -> E i j = 0) (hd : E i i ≠ 0) (hX : X i k = upS E X i k n / E i i) : Za5 n (fun j => E i j * X j k) = E i k := by
 have h1 : E i i * X i k = upS E X i k n := by rw [hX]; grind
 unfold upS at h1
 have h2 : Za5 n (fun j => E i j * X j k) = Za5 n (fun j => if j = i then E i i * X i k else 0) + Za5 n (fun j => if i < j then E i j * X j k else 0) := by
  have := Zej (n := n) (fun j => if j = i then E i i * X i k else 0) (fun j => if i < j then E i j * X j k else 0) 1 1
  rw [show ∀ a b : Rat, a + b = 1 * a + 1 * b by intro a b; grind, <- this]
  refine Zag fun j _ => ?_
  rcases Nat.lt_trichotomy j i with h | h | h
  ·rw [hlow j h, if_neg (by omega), if_neg (by omega)]; grind
  ·subst h; rw [if_pos rfl, if_neg (Nat.lt_irrefl _)]; grind
  ·rw [if_neg (by omega), if_pos h]; grind
 rw [h2, Zf5 i hi (fun j _ hj => if_neg hj), if_pos rfl, h1]; grind
def Zln (R : List (List Rat)) (m : Nat) (x : Nat -> Rat) (i : Nat) : Rat := Za5 m (fun j => Zl R i j * x j)
theorem Zi0 {n m : Nat} (x : Nat -> Rat) : ∀ (f col r : Nat) (R : List (List Rat)) (neg : Bool), R.length = n -> (∀ i, i < n -> (R[i]?.getD []).length = m) -> r <= n -> (∀ i j, r <= i -> i < n -> j < col -> Zl R i j = 0) ->
    (∀ i, i < n -> Zln (Zs f col r R neg).1 m x i = 0) -> ∀ i, i < n -> Zln R m x i = 0
 | 0, col, r, R, neg, _, _, _, _, h => h
 | f + 1, col, r, R, neg, hl, hrow, hr, hlow, h => by
  unfold Zs at h
  rw [hl] at h
  by_cases hrn : r = n
  ·simp only [if_pos hrn] at h; exact h
  ·simp only [if_neg hrn] at h
   obtain ⟨q, hq⟩ : ∃ q, Zaq (fun i => Zl R i col == 0) n n r = q := ⟨_, rfl⟩
   obtain ⟨p1, p2, p3, p4⟩ := Zeg (z := fun i => Zl R i col == 0) (n := n) (f := n) (k := r) (by omega) (by omega)
   rw [hq] at p1 p2 p3 p4
   rw [hq] at h
   by_cases hqn : q = n
   ·simp only [if_pos hqn] at h
    refine Zi0 x f (col + 1) r R neg hl hrow hr (fun i j h1 h2 h3 => ?_) h
    by_cases hj : j = col
    ·rw [hj]; simpa using p3 i h1 (by omega)
    ·exact hlow i j h1 h2 (by omega)
   ·simp only [if_neg hqn] at h
    have hqn' : q < n := by omega
    have hpv : Zl R q col ≠ 0 := by simpa using p4 hqn'
    have hsl : (Zy R q r).length = n := by rw [Zb9, hl]
    have hsrow : ∀ i, i < (Zy R q r).length -> ((Zy R q r)[i]?.getD []).length = m := fun i hi => by
     rw [hsl] at hi
     rw [Zc5 (by omega) (by omega)]
     exact hrow _ (Zf9 hqn' (by omega) hi)
    have hes : ∀ i j, Zl (Zy R q r) i j = Zl R (swI q r i) j := fun i j => Zd6 (by omega) (by omega) i j
    have hslow : ∀ i j, r <= i -> i < n -> j < col -> Zl (Zy R q r) i j = 0 := fun i j h1 h2 h3 => by
     rw [hes]; exact hlow _ j (Zm0 p1 h1) (Zf9 hqn' (by omega) h2) h3
    have hsr : swI q r r = q := by unfold swI; split
                                   ·rename_i e; exact e
                                   ·rw [if_pos rfl]
    have hpr : Zl (Zy R q r) r col ≠ 0 := by rw [hes, hsr]; exact hpv
    have hec : ∀ i j, i < n -> Zl (Zbh (Zy R q r) r col) i j = if i <= r then Zl (Zy R q r) i j else Zl (Zy R q r) i j - Zl (Zy R q r) i col / Zl (Zy R q r) r col * Zl (Zy R q r) r j :=
     fun i j hi => Zhr (m := m) hsrow (fun j hj => hslow r j (Nat.le_refl _) (by omega) hj) i j (by omega) (by omega)
    have ih := Zi0 x f (col + 1) (r + 1) (Zbh (Zy R q r) r col) _ (by rw [Zdb, hsl]) (fun i hi => by rw [Zk2 i (by omega)]; exact hsrow i (by omega)) (by omega) (fun i j h1 h2 h3 => by
     rw [hec i j h2, if_neg (by omega)]
     by_cases hj : j = col
     ·rw [hj]; grind
     ·rw [hslow i j (by omega) h2 (by omega), hslow r j (Nat.le_refl _) (by omega) (by omega)]; grind) h
    have hdr : Zln (Zy R q r) m x r = 0 := by
     have := ih r (by omega)
     unfold Zln at this ⊢
     rw [<- this]
     refine Zag fun j _ => by rw [hec r j (by omega), if_pos (Nat.le_refl _)]
    have hds : ∀ i, i < n -> Zln (Zy R q r) m x i = 0 := fun i hi => by
     have h1 := ih i hi
     by_cases hir : i <= r
     ·unfold Zln at h1 ⊢
      rw [<- h1]
      exact Zag fun j _ => by rw [hec i j hi, if_pos hir]
     ·unfold Zln at h1 hdr ⊢
      have h2 := Zej (n := m) (fun j => Zl (Zy R q r) i j * x j) (fun j => Zl (Zy R q r) r j * x j) 1 (-(Zl (Zy R q r) i col / Zl (Zy R q r) r col))
      rw [hdr] at h2
      have h3 : Za5 m (fun j => Zl (Zbh (Zy R q r) r col) i j * x j) = Za5 m (fun j => 1 * (Zl (Zy R q r) i j * x j) + -(Zl (Zy R q r) i col / Zl (Zy R q r) r col) * (Zl (Zy R q r) r j * x j)) :=
       Zag fun j _ => by rw [hec i j hi, if_neg hir]; grind
      rw [h3, h2] at h1
      grind
    intro i hi
    have := hds (swI q r i) (Zf9 hqn' (by omega) hi)
    unfold Zln at this ⊢
    rw [<- this]
    exact Zag fun j _ => by rw [hes, Zm1]
theorem BndQ.sub {B C : Nat} {p q : Rat} (h : BndQ B p) (k : BndQ C q) : BndQ (B + C) (p - q) := by
 obtain ⟨a, rfl, ha⟩ := h
 obtain ⟨b, rfl, hb⟩ := k
 exact ⟨a - b, by rw [Rat.intCast_sub], by omega⟩
theorem BndQ.zero {B : Nat} : BndQ B 0 := ⟨0, rfl, by simp⟩
def SolQ (Q X : Nat -> Nat -> Rat) (n m : Nat) : Prop := ∀ i k, i < n -> n <= k -> k < m -> Za5 n (fun j => Q i j * X j k) = Q i k
theorem Zpb {n m : Nat} {f : Nat -> Rat} {k : Nat} (hk : n <= k) (hm : k < m) (h : ∀ j, n <= j -> j ≠ k -> f j = 0) : Za5 m f = Za5 n f + f k := by
 induction m with
 | zero => omega
 | succ m ih =>
  simp only [Za5]
  by_cases hkm : k = m
  ·subst hkm
   congr 1
   have : ∀ t, n + t <= k -> Za5 (n + t) f = Za5 n f := by
    intro t
    induction t with
    | zero => intro _; rfl
    | succ t iht => intro ht; rw [<- Nat.add_assoc]; simp only [Za5]; rw [iht (by omega), h (n + t) (by omega) (by omega)]; grind
   have h1 := this (k - n) (by omega)
   rw [show n + (k - n) = k by omega] at h1
   exact h1
  ·rw [ih (by omega), h m (by omega) (by omega)]; grind
section
variable {B S n m : Nat}
theorem Zp0 (hB : 1 <= B) (hS : 1 <= S) (R : List (List Rat)) (hl : R.length = n) (hrow : ∀ i, i < n -> (R[i]?.getD []).length = m) (hs : ∀ i, i < n -> denAt R i <= S) (hBd : ∀ i j, i < n -> (Zaa (Zo R) i j).natAbs <= B) (hnm : n <= m)
    (g1 : (n + 1) * (Zay B n * Zay B n) < pw 400) (g2 : Zay B n * Zay B n * S < pw 400) (g3 : Zay B n * S < pw 300) :
    okZ (Zay B n + 1) m n 0 0 (Zo R) 1 /\ okR (Zay B n + 1) (Zay B n * S + 1) m n 0 0 R /\
    (Z6 n 0 0 (Zo R) false 1).2.1 = (Zs n 0 0 R false).2.1 /\ (Zs n 0 0 R false).2.1 <= n /\
    ((Zs n 0 0 R false).2.1 < n -> Zai n (Zl R) = 0) /\
    ((Zs n 0 0 R false).2.1 = n -> Zai n (Zl R) ≠ 0 /\ ∃ X : Nat -> Nat -> Rat, Zdw (Zl (Zs n 0 0 R false).1) X n m /\ Zdw (fun i j => (Zaa (Z6 n 0 0 (Zo R) false 1).1 i j : Rat)) X n m /\ SolQ (Zl R) X n m /\ ∀ i k, (X i k).num.natAbs <= Zay B n /\ (X i k).den <= Zay B n) := by
 obtain ⟨h1, h2⟩ := Zhe R hl hrow hs hBd
 obtain ⟨o1, o2, o3, o4, col', pc', G', s', o5, o6, o7, o8, o9⟩ := Ze5 hB hS n 0 0 R _ _ _ _ false 1 h1 h2 (by omega)
 have hby : ((byZ R n : Nat) : Rat) ≠ 0 := by
  intro h; have : byZ R n = 0 := by exact_mod_cast h
  have := Zg0 R n; omega
 have hdG := o9 (fun b => b)
 rw [Zk6 (fun a b => Zl R a b) (fun a => ((denAt R a : Nat) : Rat)), <- Zh0] at hdG
 have hs1 : sgB false = 1 := rfl
 rw [hs1] at hdG
 have hsq : ∀ b, sgB b * sgB b = 1 := by intro b; cases b <;> simp [sgB] <;> grind
 refine ⟨o1, o2, o3, o5.rn, fun hr => ?_, fun hr => ?_⟩
 ·have hE := o5.det n (fun b => b) (fun a => a) (fun a ha => ha) (fun a _ => rfl) (fun a ha => ha)
  have hcn : col' = n := by omega
  have h0 : Zai n (fun a b => s' a * Zl (Zs n 0 0 R false).1 a b) = 0 := by
   rw [Ze2]
   ·refine Zjw (k := n - 1) (by omega) ?_
    rw [o5.low (n - 1) (n - 1) (by omega) (by omega) (by omega)]; grind
   ·intro a b ha hb
    by_cases har : a < (Zs n 0 0 R false).2.1
    ·have : ∀ l, l < (Zs n 0 0 R false).2.1 -> l <= pc' l := by
       intro l
       induction l with
       | zero => intro _; omega
       | succ l ih => intro hl; have := ih (by omega); have := o5.inc l (l + 1) (by omega) hl; omega
     have := this a har
     rw [o5.bef a b har (by omega)]; grind
    ·rw [o5.low a b (by omega) ha (by omega)]; grind
  rw [hE] at h0
  rw [h0] at hdG
  have : ((byZ R n : Nat) : Rat) * Zai n (Zl R) = 0 := by grind
  rcases Rat.mul_eq_zero.1 this with h | h
  ·exact absurd h hby
  ·exact h
 ·rw [hr] at o5 o6
  have hcol : col' <= n := by omega
  have hdiag : ∀ l, l < n -> pc' l = l := fun l hl => o5.diag hcol hl
  obtain ⟨E, hEe⟩ : ∃ E, Zl (Zs n 0 0 R false).1 = E := ⟨_, rfl⟩
  have hElow : ∀ i j, i < n -> j < i -> E i j = 0 := fun i j hi hj => by rw [<- hEe]; exact o5.bef i j hi (by rw [hdiag i hi]; exact hj)
  have hEd : ∀ i, i < n -> E i i ≠ 0 := fun i hi => by have := o5.piv i hi; rw [hdiag i hi] at this; rw [<- hEe]; exact this
  have hEout : ∀ i j, n <= i -> E i j = 0 := fun i j hi => by rw [<- hEe]; unfold Zl; rw [List.getElem?_eq_none (l := (Zs n 0 0 R false).1) (by rw [o5.len]; exact hi)]; rfl
  have hEcol : ∀ i j, i < n -> m <= j -> E i j = 0 := fun i j hi hj => by rw [<- hEe]; exact Zoj o5.row hi hj
  have hs0 : ∀ i, i < n -> s' i ≠ 0 := fun i hi => (o5.sB i hi).2
  -- the determinant
  obtain ⟨D, hD⟩ : ∃ D, Zai n (fun a b => G' a b) = D := ⟨_, rfl⟩
  have hDE : Zai n (fun a b => s' a * E a b) = D := by
   have := o5.det n (fun b => b) (fun a => a) (fun a ha => ha) (fun a _ => rfl) (fun a ha => ha)
   rw [<- hD, <- this, hEe]
  have hD0 : D ≠ 0 := by
   rw [<- hDE, Ze2 (fun a b ha hb => by rw [hElow a b ha hb]; grind)]
   intro h0
   have hp : ∀ t, t <= n -> Zab t (fun i => s' i * E i i) ≠ 0 := by
    intro t
    induction t with
    | zero => intro _ h; simp only [Zab] at h; revert h; decide
    | succ t ih =>
     intro ht h
     simp only [Zab] at h
     rcases Rat.mul_eq_zero.1 h with h | h
     ·exact ih (by omega) h
     ·rcases Rat.mul_eq_zero.1 h with h | h
      ·exact hs0 t (by omega) h
      ·exact hEd t (by omega) h
   exact hp n (Nat.le_refl _) h0
  have hDb : BndQ (Zay B n) D := by rw [<- hD]; exact Zkf fun a b ha hb => o5.gB a b ha
  obtain ⟨X, hX, hXout⟩ := Zj6 (n := n) E n (Nat.le_refl _)
  replace hX : ∀ i k, i < n -> X i k = upS E X i k n / E i i := fun i k hi => hX i k (by omega) hi
  have hES : ∀ i k, i < n -> Za5 n (fun j => E i j * X j k) = E i k := fun i k hi => Zpa hi (fun j hj => hElow i j hi hj) (hEd i hi) (hX i k hi)
  have hXD : ∀ i k, i < n -> BndQ (Zay B n) (D * X i k) := fun i k hi => by
   have hc := cramer (fun a b => s' a * E a b) (fun j => X j k) (fun a => s' a * E a k) (fun a ha => by
    have := Zej (n := n) (fun j => E a j * X j k) (fun _ => 0) (s' a) 0
    rw [hES a k ha] at this
    rw [show s' a * E a k = s' a * E a k + 0 * Za5 n (fun _ => 0) by grind, <- this]
    exact Zag fun j _ => by grind) hi
   rw [hDE] at hc
   rw [hc]
   have := o5.det n (fun b => if b = i then k else b) (fun a => a) (fun a ha => ha) (fun a _ => rfl) (fun a ha => ha)
   rw [hEe] at this
   rw [<- Zar (M := fun a b => s' a * E a (if b = i then k else b)) (fun a b _ _ => by
    by_cases hb : b = i
    ·rw [if_pos hb, if_pos hb]
    ·rw [if_neg hb, if_neg hb]), this]
   exact Zkf fun a b ha hb => o5.gB a _ ha
  have hXb : ∀ i k, (X i k).num.natAbs <= Zay B n /\ (X i k).den <= Zay B n := fun i k => by
   have hb1 : 1 <= Zay B n := Zcs (m := 0) hB (by omega)
   by_cases hi : i < n
   ·exact Zgx (hXD i k hi) hDb hD0
   ·rw [hXout i k (by omega)]; exact ⟨Nat.zero_le _, hb1⟩
  have hb1 : 1 <= Zay B n := Zcs (m := 0) hB (by omega)
  have hbS : Zay B n <= Zay B n * S := Nat.le_mul_of_pos_right _ hS
  obtain ⟨P, hP⟩ : ∃ P : Nat -> Rat, P = fun i => Zds (Zs n 0 0 R false).1 pc' s' i * s' i := ⟨_, rfl⟩
  have hP0 : ∀ i, i < n -> P i ≠ 0 := fun i hi h0 => by
   rw [hP] at h0
   rcases Rat.mul_eq_zero.1 h0 with h | h
   ·exact o5.piv_ne (l := i) (by omega) h
   ·exact hs0 i hi h
  have hPb : ∀ i, i < n -> BndQ (Zay B n * S) (P i) := fun i hi => by
   rw [hP]
   have h5 := o5.pivL_bnd (l := i) (by omega)
   have h6 := Zcs hB (show i <= n by omega)
   exact (h5.mul (o5.sB i hi).1).mono (Nat.mul_le_mul h6 (Nat.le_refl _))
  have hPE : ∀ i j, i < n -> BndQ (Zay B n) (P i * E i j) := fun i j hi => by
   have h5 := o5.minor hi j
   rw [show min i n = i by omega, hEe] at h5
   rw [hP]
   have : Zds (Zs n 0 0 R false).1 pc' s' i * s' i * E i j = Zds (Zs n 0 0 R false).1 pc' s' i * (s' i * E i j) := by grind
   rw [this]
   exact h5.mono (Zcs hB (by omega))
  have hup : ∀ i k t, i < n -> t <= n -> BndQ ((n + 1) * (Zay B n * Zay B n)) (P i * D * upS E X i k t) := fun i k t hi ht => by
   have e : P i * D * upS E X i k t = P i * E i k * D - Za5 t (fun j => if i < j then (P i * E i j) * (D * X j k) else 0) := by
    unfold upS
    have := Zej (n := t) (fun j => if i < j then E i j * X j k else 0) (fun _ => 0) (P i * D) 0
    have h5 : Za5 t (fun j => if i < j then (P i * E i j) * (D * X j k) else 0) = P i * D * Za5 t (fun j => if i < j then E i j * X j k else 0) + 0 * Za5 t (fun _ => 0) := by
     rw [<- this]
     refine Zag fun j _ => ?_
     by_cases hij : i < j
     ·rw [if_pos hij, if_pos hij]; grind
     ·rw [if_neg hij, if_neg hij]; grind
    rw [h5]; grind
   rw [e]
   have hsum : BndQ (t * (Zay B n * Zay B n)) (Za5 t (fun j => if i < j then (P i * E i j) * (D * X j k) else 0)) := Zny fun j hj => by
    by_cases hij : i < j
    ·rw [if_pos hij]; exact (hPE i j hi).mul (hXD j k (by omega))
    ·rw [if_neg hij]; exact BndQ.zero
   refine (((hPE i k hi).mul hDb).sub hsum).mono ?_
   rw [Nat.add_mul, Nat.one_mul, Nat.add_comm]
   exact Nat.add_le_add_right (Nat.mul_le_mul ht (Nat.le_refl _)) _
  have hPD : ∀ i, i < n -> BndQ (Zay B n * Zay B n * S) (P i * D) := fun i hi => by
   refine ((hPb i hi).mul hDb).mono ?_
   rw [Nat.mul_right_comm]; exact Nat.le_refl _
  have hupb : ∀ i k t, SmN 400 400 (upS E X i k t) := fun i k t => by
   by_cases hi : i < n
   ·rcases Nat.le_total t n with ht | ht
    ·have := Zgx (hup i k t hi ht) (hPD i hi) (fun h0 => by
       rcases Rat.mul_eq_zero.1 h0 with h | h
       ·exact hP0 i hi h
       ·exact hD0 h)
     exact ⟨Nat.lt_of_le_of_lt this.1 g1, Nat.lt_of_le_of_lt this.2 g2⟩
    ·rw [Zom (fun j hj => hXout j k hj) ht]
     have := Zgx (hup i k n hi (Nat.le_refl _)) (hPD i hi) (fun h0 => by
      rcases Rat.mul_eq_zero.1 h0 with h | h
      ·exact hP0 i hi h
      ·exact hD0 h)
     exact ⟨Nat.lt_of_le_of_lt this.1 g1, Nat.lt_of_le_of_lt this.2 g2⟩
   ·have : upS E X i k t = 0 := by
      unfold upS
      rw [hEout i k (by omega), Zi8 (fun j _ => by
       by_cases hij : i < j
       ·rw [if_pos hij, hEout i j (by omega)]; grind
       ·rw [if_neg hij])]
      grind
    rw [this]; exact ⟨Zb5 _, by show 1 < pw 400; exact Nat.lt_of_lt_of_le Zdk (Zce (by decide))⟩
  have hXs : ∀ i k, SmN 300 300 (X i k) := fun i k => ⟨Nat.lt_of_le_of_lt (hXb i k).1 (Nat.lt_of_le_of_lt hbS g3), Nat.lt_of_le_of_lt (hXb i k).2 (Nat.lt_of_le_of_lt hbS g3)⟩
  have hEs : ∀ i j, SmN 300 300 (E i j) := fun i j => by
   by_cases hi : i < n
   ·have := Zgx (hPE i j hi) (hPb i hi) (hP0 i hi)
    exact ⟨Nat.lt_of_le_of_lt this.1 (Nat.lt_of_le_of_lt hbS g3), Nat.lt_of_le_of_lt this.2 g3⟩
   ·rw [hEout i j (by omega)]; exact ⟨Zb5 _, by show 1 < pw 300; exact Nat.lt_of_lt_of_le Zdk (Zce (by decide))⟩
  have hZE : ∀ i j, i < n -> (Zaa (Z6 n 0 0 (Zo R) false 1).1 i j : Rat) = P i * E i j := fun i j hi => by
   rw [o6.ent i j hi, show min i n = i by omega, hEe, hP]; grind
  have hZout : ∀ i j, n <= i -> (Zaa (Z6 n 0 0 (Zo R) false 1).1 i j : Rat) = 0 := fun i j hi => by
   unfold Zaa; rw [List.getElem?_eq_none (l := (Z6 n 0 0 (Zo R) false 1).1) (by rw [o6.len]; exact hi)]; rfl
  refine ⟨?_, X, ?_, ?_, ?_, hXb⟩
  ·intro h0
   rw [hD] at hdG
   rw [h0] at hdG
   have hq := hsq (Zs n 0 0 R false).2.2
   apply hD0
   have : sgB (Zs n 0 0 R false).2.2 * (sgB (Zs n 0 0 R false).2.2 * D) = 0 := by rw [hdG]; grind
   grind
  ·rw [hEe]
   exact ⟨hEd, fun i k hi _ _ => hX i k hi, hEs, hXs, hupb⟩
  ·have hsc : ∀ i k t, i < n -> upS (fun i j => (Zaa (Z6 n 0 0 (Zo R) false 1).1 i j : Rat)) X i k t = P i * upS E X i k t := fun i k t hi => Zsg (E := E) fun j => hZE i j hi
   refine ⟨fun i hi => ?_, fun i k hi _ _ => ?_, fun i j => ?_, hXs, fun i k t => ?_⟩
   ·show (Zaa (Z6 n 0 0 (Zo R) false 1).1 i i : Rat) ≠ 0
    rw [hZE i i hi]
    intro h0
    rcases Rat.mul_eq_zero.1 h0 with h | h
    ·exact hP0 i hi h
    ·exact hEd i hi h
   ·show X i k = upS (fun i j => (Zaa (Z6 n 0 0 (Zo R) false 1).1 i j : Rat)) X i k n / (Zaa (Z6 n 0 0 (Zo R) false 1).1 i i : Rat)
    rw [hsc i k n hi, hZE i i hi, hX i k hi]
    have a1 := hP0 i hi
    have a2 := hEd i hi
    grind
   ·by_cases hi : i < n
    ·obtain ⟨z, hz1, hz2⟩ := hPE i j hi
     show SmN 300 300 (Zaa (Z6 n 0 0 (Zo R) false 1).1 i j : Rat)
     rw [hZE i j hi, hz1]
     exact (SmN.int (i := 300) (Nat.lt_of_le_of_lt hz2 (Nat.lt_of_le_of_lt hbS g3))).mono (by decide) (by decide)
    ·show SmN 300 300 (Zaa (Z6 n 0 0 (Zo R) false 1).1 i j : Rat)
     rw [hZout i j (by omega)]; exact ⟨Zb5 _, by show 1 < pw 300; exact Nat.lt_of_lt_of_le Zdk (Zce (by decide))⟩
   ·have key : ∀ t, i < n -> t <= n -> SmN 400 400 (P i * upS E X i k t) := fun t hi ht => by
      have h5 := hup i k t hi ht
      have e : P i * D * upS E X i k t = D * (P i * upS E X i k t) := by grind
      rw [e] at h5
      have := Zgx h5 hDb hD0
      have hbb : Zay B n <= Zay B n * Zay B n * S := Nat.le_trans (Nat.le_mul_of_pos_right _ hb1) (Nat.le_mul_of_pos_right _ hS)
      exact ⟨Nat.lt_of_le_of_lt this.1 g1, Nat.lt_of_le_of_lt this.2 (Nat.lt_of_le_of_lt hbb g2)⟩
    by_cases hi : i < n
    ·rw [hsc i k t hi]
     rcases Nat.le_total t n with ht | ht
     ·exact key t hi ht
     ·rw [Zom (fun j hj => hXout j k hj) ht]; exact key n hi (Nat.le_refl _)
    ·have : upS (fun i j => (Zaa (Z6 n 0 0 (Zo R) false 1).1 i j : Rat)) X i k t = 0 := by
       unfold upS
       have hz : ∀ j, (Zaa (Z6 n 0 0 (Zo R) false 1).1 i j : Rat) = 0 := fun j => hZout i j (by omega)
       simp only [hz]
       rw [Zi8 (fun j _ => by
        by_cases hij : i < j
        ·rw [if_pos hij]; grind
        ·rw [if_neg hij])]
       grind
     rw [this]; exact ⟨Zb5 _, by show 1 < pw 400; exact Nat.lt_of_lt_of_le Zdk (Zce (by decide))⟩
  ·intro i k hi hk hkm
   have hv : ∀ (F : Nat -> Rat), Za5 m (fun j => F j * (if j < n then X j k else if j = k then -1 else 0)) = Za5 n (fun j => F j * X j k) - F k := fun F => by
    have h1 := Zpb (n := n) (m := m) (f := fun j => F j * (if j < n then X j k else if j = k then -1 else 0)) (k := k) hk hkm (fun j h1 h2 => by
     show F j * (if j < n then X j k else if j = k then -1 else 0) = 0
     rw [if_neg (show ¬ j < n by omega), if_neg h2]; grind)
    have h2 : Za5 n (fun j => F j * (if j < n then X j k else if j = k then -1 else 0)) = Za5 n (fun j => F j * X j k) := Zag fun j hj => by
     show F j * (if j < n then X j k else if j = k then -1 else 0) = F j * X j k
     rw [if_pos hj]
    have h3 : F k * (if k < n then X k k else if k = k then -1 else 0) = - F k := by
     rw [if_neg (show ¬ k < n by omega), if_pos rfl]; grind
    rw [h1, h2, h3]; grind
   have hker := Zi0 (n := n) (m := m) (fun j => if j < n then X j k else if j = k then -1 else 0) n 0 0 R false hl hrow (Nat.zero_le _) (fun _ j _ _ hj => by omega) (fun i hi => by
    unfold Zln
    have h1 := hv (fun j => E i j)
    rw [hEe]
    rw [hES i k hi] at h1
    rw [h1]; grind) i hi
   unfold Zln at hker
   have h1 := hv (fun j => Zl R i j)
   rw [hker] at h1
   grind
end
end Go.Proofs.YtigdclhagmnopaaGreat
