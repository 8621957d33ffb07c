/- The reference of layer 4: Same, Great. -/
import Derived.Test.YtljocgdhdilglaaGreatZr19
set_option linter.unusedSimpArgs false
set_option linter.unusedVariables false

namespace Go.Proofs.YtljocgdhdilglaaGreat
open Go.RowKit
attribute [local go_sem] add_lit

/-- Two valid forms of one number are the same, limb by limb. -/
theorem sameB_of {w w' : World} {e f : WE} (h : Lim w e.A e.n e.c e.l) (h' : Lim w' f.A f.n f.c f.l) (k : e.ok = true) (k' : f.ok = true) (hz : e.num = f.num) : sameB e.neg f.neg e.l f.l = true := by
  obtain ⟨a1, a2, a3⟩ := (okW_iff h.lt).1 k
  obtain ⟨b1, b2, b3⟩ := (okW_iff h'.lt).1 k'
  have hz' : sg e.neg (val e.l) = sg f.neg (val f.l) := hz
  rw [hz'] at a1 a3
  have hn : e.neg = f.neg := a1.trans b1.symm
  have hl : e.l = f.l := a3.trans b3.symm
  unfold sameB
  rw [hn, hl, cmpL_self]
  simp

set_option maxRecDepth 100000 in
set_option maxHeartbeats 1000000 in
theorem sSame_any (A B : Option Addr) (n c m d : Nat) (xs : List Int) (w : World) (h : PolyL w A n c xs) (h' : PolyL w B m d xs) :
    Calls Tryz.prog 20 #[.slice A n c, .slice B m d] w fun e w' => e = .returned (.bool true) ∧ Below w.heap.size w w' := by
  obtain rfl : n = m := by rw [← h.len, ← h'.len]
  obtain ⟨es, he, hes, heo⟩ := h
  obtain ⟨fs, hf, hfs, hfo⟩ := h'
  have hnc := he.2.1
  have hcm := he.2.2.1
  have hmd := hf.2.1
  have hdm := hf.2.2.1
  unfold maxLen at hcm hdm
  have hnn : ((n : Int) == (n : Int)) = true := by simp
  replace hes := hide hes
  replace hfs := hide hfs
  replace heo := hide heo
  replace hfo := hide hfo
  go_enter Tryz.func20, Tryz.ntmps20
  go_wp2_with fail
  go_loopw [5] (fun iv wr => ∃ i : Nat, i ≤ n ∧ iv = .int .i64 i ∧ Below w.heap.size w wr) (fun iv _ => n - (intOf iv).toNat)
  case atStart => exact ⟨0, Nat.zero_le _, rfl, Below.refl _ _⟩
  case round =>
    obtain ⟨i, hik, rfl, hB⟩ := hrel
    by_cases hin : i < n
    · obtain ⟨b1, o1, e1, rfl, he1, hc1, hc1', hL1⟩ := (he.below hB).at_ hin
      obtain ⟨b2, o2, e2, rfl, he2, hc2, hc2', hL2⟩ := (hf.below hB).at_ hin
      have hs := sameB_of hL1 hL2 (heo.out e1 (List.mem_of_getElem? he1)) (hfo.out e2 (List.mem_of_getElem? he2)) (by
        have h1 : (es.map WE.num)[i]?.getD 0 = e1.num := by rw [List.getElem?_map, he1]; rfl
        have h2 : (fs.map WE.num)[i]?.getD 0 = e2.num := by rw [List.getElem?_map, he2]; rfl
        rw [hes.out] at h1
        rw [hfs.out] at h2
        rw [← h1, ← h2])
      obtain ⟨neg1, A1, n1, c1, l1⟩ := e1
      obtain ⟨neg2, A2, n2, c2, l2⟩ := e2
      dsimp only at hc1 hc1' hL1 hc2 hc2' hL2 hs
      replace hs := hide hs
      replace he1 := hide he1
      replace he2 := hide he2
      have hlt1 := lt_of_cell hc1
      have hlt2 := lt_of_cell hc2
      go_wp2_with fail
      have hL1' : Lim wr.drew A1 n1 c1 l1 := hL1
      have hL2' : Lim wr.drew A2 n2 c2 l2 := hL2
      have g0 : wr.drew.cell? ⟨b1, o1 + i * 2, none⟩ = some (.bool neg1) := hc1
      have g1 : wr.drew.cell? ⟨b1, o1 + i * 2 + 1, none⟩ = some (.slice A1 n1 c1) := hc1'
      have g2 : wr.drew.cell? ⟨b2, o2 + i * 2, none⟩ = some (.bool neg2) := hc2
      have g3 : wr.drew.cell? ⟨b2, o2 + i * 2 + 1, none⟩ = some (.slice A2 n2 c2) := hc2'
      go_region_held3 (fun w' => w'.cell? ⟨b1, o1 + i * 2, none⟩ = some (.bool neg1) ∧ w'.cell? ⟨b1, o1 + i * 2 + 1, none⟩ = some (.slice A1 n1 c1) ∧ w'.cell? ⟨b2, o2 + i * 2, none⟩ = some (.bool neg2) ∧ w'.cell? ⟨b2, o2 + i * 2 + 1, none⟩ = some (.slice A2 n2 c2))
          (((try dsimp only); (repeat' apply And.intro); all_goals (first | go_keep | (simp [*, go_sem]; done))))
          (first
            | (go_at_call 34; refine (rSame_any _ _ _ _ _ _ _ _ _ _ _ hL1' hL2').mono ?_; rintro e w5 ⟨he5, hb5⟩; rw [hs.out] at he5; subst he5; have k0 := keep_cell hb5 g0; have k1 := keep_cell hb5 g1; have k2 := keep_cell hb5 g2; have k3 := keep_cell hb5 g3; have hB5 := hB.trans ((below_drewL hb5).mono hB.size)))
      all_goals (
        go_wp2_with fail
        go_roundw
        case rel => exact ⟨i + 1, by omega, by go_num, hB5⟩
        case measure => simp [intOf]; omega)
    · obtain rfl : i = n := by omega
      go_wp2_with fail
      go_ret
      exact ⟨rfl, hB⟩

/-- Some Bool. -/
def BoolR (w : World) (e : Ending) (w' : World) : Prop := ∃ b, e = .returned (.bool b) ∧ Below w.heap.size w w'

end Go.Proofs.YtljocgdhdilglaaGreat
