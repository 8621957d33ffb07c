/- The law PolyReckons, walked: for any two lists of numbers, as they lie in memory, it returns true and changes nothing that was there. -/
import Derived.Test.YtljocgdhdilglaaS6
namespace Go.Proofs.Ytljocgdhdilglaa
open Go.RowKit
attribute [local go_sem] add_lit

/-- The answer's list and its error's code. -/
def ansL : Option (List Int) → List Int
  | none => []
  | some ys => if okP (trimP ys) = true then trimP ys else []
def ansC : Option (List Int) → Int
  | none => 8
  | some ys => if okP (trimP ys) = true then 0 else 16
/-- A result (polynomial, error). -/
def AnsP (w : World) (z : Option (List Int)) (e : Ending) (w' : World) : Prop :=
  Below w.heap.size w w' ∧ ∃ A n c, e = .returned (.tuple #[.slice A n c, .int .i64 (ansC z)]) ∧ PolyL w' A n c (ansL z)
theorem ResPoly.ans {w w' : World} {ys : List Int} {e : Ending} (h : ResPoly w ys e w') : AnsP w (some ys) e w' := by
  obtain ⟨hb, A, n, c, code, rfl, ⟨h1, rfl, h2⟩ | ⟨h1, rfl, rfl, rfl⟩⟩ := h
  · exact ⟨hb, A, n, c, by simp only [ansC, if_pos h1], by simp only [ansL, if_pos h1]; exact h2⟩
  · have h1' : ¬ okP (trimP ys) = true := by rw [h1]; simp
    exact ⟨hb, A, 0, 0, by simp only [ansC, if_neg h1'], by simp only [ansL, if_neg h1']; exact PolyL.nil _ _ _ (Nat.zero_le _)⟩
theorem BadPoly.ans {w w' : World} {e : Ending} (h : BadPoly w e w') : AnsP w none e w' := by
  obtain ⟨hb, A, rfl⟩ := h
  exact ⟨hb, A, 0, 0, rfl, PolyL.nil _ _ _ (Nat.zero_le _)⟩

theorem pAdd_ans (A B : Option Addr) (n c m d : Nat) (ps qs : List WE) (w : World) (hp : WL w A n c ps) (hq : WL w B m d qs) :
    Calls Try.prog 6 #[.slice A n c, .slice B m d] w (AnsP w (if (pOk ps && pOk qs) = true then some (joinP (fun a b => a + b) (ps.map WE.num) (qs.map WE.num)) else none)) := by
  by_cases hk : (pOk ps && pOk qs) = true
  · rw [if_pos hk]
    rw [Bool.and_eq_true] at hk
    exact (pAdd_ok _ _ _ _ _ _ _ _ _ hp hq hk.1 hk.2).mono fun _ _ h => h.ans
  · rw [if_neg hk]
    exact (pAdd_bad _ _ _ _ _ _ _ _ _ hp hq (by simpa using hk)).mono fun _ _ h => h.ans

theorem pSub_ans (A B : Option Addr) (n c m d : Nat) (ps qs : List WE) (w : World) (hp : WL w A n c ps) (hq : WL w B m d qs) :
    Calls Try.prog 8 #[.slice A n c, .slice B m d] w (AnsP w (if (pOk ps && pOk qs) = true then some (joinP (fun a b => a - b) (ps.map WE.num) (qs.map WE.num)) else none)) := by
  by_cases hk : (pOk ps && pOk qs) = true
  · rw [if_pos hk]
    rw [Bool.and_eq_true] at hk
    exact (pSub_ok _ _ _ _ _ _ _ _ _ hp hq hk.1 hk.2).mono fun _ _ h => h.ans
  · rw [if_neg hk]
    exact (pSub_bad _ _ _ _ _ _ _ _ _ hp hq (by simpa using hk)).mono fun _ _ h => h.ans

theorem pMul_ans (A B : Option Addr) (n c m d : Nat) (ps qs : List WE) (w : World) (hp : WL w A n c ps) (hq : WL w B m d qs) :
    Calls Try.prog 10 #[.slice A n c, .slice B m d] w (AnsP w (if (pOk ps && pOk qs) = true then some (mulP (ps.map WE.num) (qs.map WE.num)) else none)) := by
  by_cases hk : (pOk ps && pOk qs) = true
  · rw [if_pos hk]
    rw [Bool.and_eq_true] at hk
    exact (pMul_ok _ _ _ _ _ _ _ _ _ hp hq hk.1 hk.2).mono fun _ _ h => h.ans
  · rw [if_neg hk]
    exact (pMul_bad _ _ _ _ _ _ _ _ _ hp hq (by simpa using hk)).mono fun _ _ h => h.ans

theorem pDeriv_ans (A : Option Addr) (n c : Nat) (ps : List WE) (w : World) (hp : WL w A n c ps) :
    Calls Try.prog 12 #[.slice A n c] w (AnsP w (if pOk ps = true then some (derP (ps.map WE.num)) else none)) := by
  by_cases hk : pOk ps = true
  · rw [if_pos hk]
    exact (pDeriv_ok _ _ _ _ _ hp hk).mono fun _ _ h => h.ans
  · rw [if_neg hk]
    exact (pDeriv_bad _ _ _ _ _ hp (by simpa using hk)).mono fun _ _ h => h.ans

theorem sAdd_ans (A B : Option Addr) (n c m d : Nat) (ps qs : List WE) (w : World) (hp : WL w A n c ps) (hq : WL w B m d qs) :
    Calls Try.prog 7 #[.slice A n c, .slice B m d] w (AnsP w (if (pOk ps && pOk qs) = true then some (joinP (fun a b => a + b) (ps.map WE.num) (qs.map WE.num)) else none)) := by
  by_cases hk : (pOk ps && pOk qs) = true
  · rw [if_pos hk]
    rw [Bool.and_eq_true] at hk
    exact (sAdd_ok _ _ _ _ _ _ _ _ _ hp hq hk.1 hk.2).mono fun _ _ h => h.ans
  · rw [if_neg hk]
    exact (sAdd_bad _ _ _ _ _ _ _ _ _ hp hq (by simpa using hk)).mono fun _ _ h => h.ans

theorem sSub_ans (A B : Option Addr) (n c m d : Nat) (ps qs : List WE) (w : World) (hp : WL w A n c ps) (hq : WL w B m d qs) :
    Calls Try.prog 9 #[.slice A n c, .slice B m d] w (AnsP w (if (pOk ps && pOk qs) = true then some (joinP (fun a b => a - b) (ps.map WE.num) (qs.map WE.num)) else none)) := by
  by_cases hk : (pOk ps && pOk qs) = true
  · rw [if_pos hk]
    rw [Bool.and_eq_true] at hk
    exact (sSub_ok _ _ _ _ _ _ _ _ _ hp hq hk.1 hk.2).mono fun _ _ h => h.ans
  · rw [if_neg hk]
    exact (sSub_bad _ _ _ _ _ _ _ _ _ hp hq (by simpa using hk)).mono fun _ _ h => h.ans

theorem sMul_ans (A B : Option Addr) (n c m d : Nat) (ps qs : List WE) (w : World) (hp : WL w A n c ps) (hq : WL w B m d qs) :
    Calls Try.prog 11 #[.slice A n c, .slice B m d] w (AnsP w (if (pOk ps && pOk qs) = true then some (mulP (ps.map WE.num) (qs.map WE.num)) else none)) := by
  by_cases hk : (pOk ps && pOk qs) = true
  · rw [if_pos hk]
    rw [Bool.and_eq_true] at hk
    exact (sMul_ok _ _ _ _ _ _ _ _ _ hp hq hk.1 hk.2).mono fun _ _ h => h.ans
  · rw [if_neg hk]
    exact (sMul_bad _ _ _ _ _ _ _ _ _ hp hq (by simpa using hk)).mono fun _ _ h => h.ans

theorem sDeriv_ans (A : Option Addr) (n c : Nat) (ps : List WE) (w : World) (hp : WL w A n c ps) :
    Calls Try.prog 13 #[.slice A n c] w (AnsP w (if pOk ps = true then some (derP (ps.map WE.num)) else none)) := by
  by_cases hk : pOk ps = true
  · rw [if_pos hk]
    exact (sDeriv_ok _ _ _ _ _ hp hk).mono fun _ _ h => h.ans
  · rw [if_neg hk]
    exact (sDeriv_bad _ _ _ _ _ hp (by simpa using hk)).mono fun _ _ h => h.ans

set_option maxRecDepth 100000 in
set_option maxHeartbeats 2000000 in
theorem reckons_any (A B : Option Addr) (n c m d : Nat) (ps qs : List WE) (w : World) (hp : WL w A n c ps) (hq : WL w B m d qs) :
    Calls Try.prog 3 #[.slice A n c, .slice B m d] w fun e w' => e = .returned (.bool true) ∧ Below w.heap.size w w' := by
  have HpAdd_ans := hide (fun W hp hq => pAdd_ans A B n c m d ps qs W hp hq)
  have HsAdd_ans := hide (fun W hp hq => sAdd_ans A B n c m d ps qs W hp hq)
  have HpSub_ans := hide (fun W hp hq => pSub_ans A B n c m d ps qs W hp hq)
  have HsSub_ans := hide (fun W hp hq => sSub_ans A B n c m d ps qs W hp hq)
  have HpMul_ans := hide (fun W hp hq => pMul_ans A B n c m d ps qs W hp hq)
  have HsMul_ans := hide (fun W hp hq => sMul_ans A B n c m d ps qs W hp hq)
  have HpDeriv_ans := hide (fun W hp => pDeriv_ans A n c ps W hp)
  have HsDeriv_ans := hide (fun W hp => sDeriv_ans A n c ps W hp)
  generalize (if (pOk ps && pOk qs) = true then some (joinP (fun a b => a + b) (ps.map WE.num) (qs.map WE.num)) else none) = zA at HpAdd_ans HsAdd_ans
  generalize (if (pOk ps && pOk qs) = true then some (joinP (fun a b => a - b) (ps.map WE.num) (qs.map WE.num)) else none) = zS at HpSub_ans HsSub_ans
  generalize (if (pOk ps && pOk qs) = true then some (mulP (ps.map WE.num) (qs.map WE.num)) else none) = zM at HpMul_ans HsMul_ans
  generalize (if pOk ps = true then some (derP (ps.map WE.num)) else none) = zD at HpDeriv_ans HsDeriv_ans
  obtain ⟨v, hv⟩ : ∃ v, errOf (pOk ps) = v := ⟨_, rfl⟩
  replace hv := hide hv
  go_enter Try.func3, Try.ntmps3
  go_wp2_with fail
  refine (sGreat_any _ _ _ _ _ hp).mono ?_
  rintro e w1 ⟨b1, rfl, hb1⟩
  cases b1
  case true =>
    go_wp2_with fail
    go_returns
    exact ⟨rfl, hb1⟩
  case false =>
    go_wp2_with fail
    refine (sGreat_any _ _ _ _ _ (hq.below hb1)).mono ?_
    rintro e w2 ⟨b2, rfl, hb2⟩
    have hB2 := hb1.trans (hb2.mono hb1.size)
    cases b2
    case true =>
      go_wp2_with fail
      go_returns
      exact ⟨rfl, hB2⟩
    case false =>
      go_wp2_with fail
      refine (HpAdd_ans.out w2 (hp.below hB2) (hq.below hB2)).mono ?_
      rintro e w3 ⟨hb3, A3, n3, c3, rfl, hP3⟩
      have hB3 := hB2.trans (hb3.mono hB2.size)
      go_wp2_with fail
      refine (HsAdd_ans.out w3 (hp.below hB3) (hq.below hB3)).mono ?_
      rintro e w4 ⟨hb4, A4, n4, c4, rfl, hP4⟩
      have hB4 := hB3.trans (hb4.mono hB3.size)
      replace hP3 := hP3.below hb4
      go_wp2_with fail
      refine (HpSub_ans.out w4 (hp.below hB4) (hq.below hB4)).mono ?_
      rintro e w5 ⟨hb5, A5, n5, c5, rfl, hP5⟩
      have hB5 := hB4.trans (hb5.mono hB4.size)
      replace hP3 := hP3.below hb5
      replace hP4 := hP4.below hb5
      go_wp2_with fail
      refine (HsSub_ans.out w5 (hp.below hB5) (hq.below hB5)).mono ?_
      rintro e w6 ⟨hb6, A6, n6, c6, rfl, hP6⟩
      have hB6 := hB5.trans (hb6.mono hB5.size)
      replace hP3 := hP3.below hb6
      replace hP4 := hP4.below hb6
      replace hP5 := hP5.below hb6
      go_wp2_with fail
      refine (HpMul_ans.out w6 (hp.below hB6) (hq.below hB6)).mono ?_
      rintro e w7 ⟨hb7, A7, n7, c7, rfl, hP7⟩
      have hB7 := hB6.trans (hb7.mono hB6.size)
      replace hP3 := hP3.below hb7
      replace hP4 := hP4.below hb7
      replace hP5 := hP5.below hb7
      replace hP6 := hP6.below hb7
      go_wp2_with fail
      refine (HsMul_ans.out w7 (hp.below hB7) (hq.below hB7)).mono ?_
      rintro e w8 ⟨hb8, A8, n8, c8, rfl, hP8⟩
      have hB8 := hB7.trans (hb8.mono hB7.size)
      replace hP3 := hP3.below hb8
      replace hP4 := hP4.below hb8
      replace hP5 := hP5.below hb8
      replace hP6 := hP6.below hb8
      replace hP7 := hP7.below hb8
      go_wp2_with fail
      refine (HpDeriv_ans.out w8 (hp.below hB8)).mono ?_
      rintro e w9 ⟨hb9, A9, n9, c9, rfl, hP9⟩
      have hB9 := hB8.trans (hb9.mono hB8.size)
      replace hP3 := hP3.below hb9
      replace hP4 := hP4.below hb9
      replace hP5 := hP5.below hb9
      replace hP6 := hP6.below hb9
      replace hP7 := hP7.below hb9
      replace hP8 := hP8.below hb9
      go_wp2_with fail
      refine (HsDeriv_ans.out w9 (hp.below hB9)).mono ?_
      rintro e w10 ⟨hb10, A10, n10, c10, rfl, hP10⟩
      have hB10 := hB9.trans (hb10.mono hB9.size)
      replace hP3 := hP3.below hb10
      replace hP4 := hP4.below hb10
      replace hP5 := hP5.below hb10
      replace hP6 := hP6.below hb10
      replace hP7 := hP7.below hb10
      replace hP8 := hP8.below hb10
      replace hP9 := hP9.below hb10
      go_wp2_with fail
      refine (pCheck_any _ _ _ _ _ (hp.below hB10)).mono ?_
      rintro e w11 ⟨he11, hb11⟩
      rw [hv.out] at he11
      subst he11
      have hB11 := hB10.trans (hb11.mono hB10.size)
      replace hP3 := hP3.below hb11
      replace hP4 := hP4.below hb11
      replace hP5 := hP5.below hb11
      replace hP6 := hP6.below hb11
      replace hP7 := hP7.below hb11
      replace hP8 := hP8.below hb11
      replace hP9 := hP9.below hb11
      replace hP10 := hP10.below hb11
      go_wp2_with fail
      refine (sCheck_any _ _ _ _ _ (hp.below hB11)).mono ?_
      rintro e w12 ⟨he12, hb12⟩
      rw [hv.out] at he12
      subst he12
      have hB12 := hB11.trans (hb12.mono hB11.size)
      replace hP3 := hP3.below hb12
      replace hP4 := hP4.below hb12
      replace hP5 := hP5.below hb12
      replace hP6 := hP6.below hb12
      replace hP7 := hP7.below hb12
      replace hP8 := hP8.below hb12
      replace hP9 := hP9.below hb12
      replace hP10 := hP10.below hb12
      go_wp2_with fail
      refine (sSame_any _ _ _ _ _ _ _ _ hP3 hP4).mono ?_
      rintro e w13 ⟨rfl, hb13⟩
      have hB13 := hB12.trans (hb13.mono hB12.size)
      replace hP3 := hP3.below hb13
      replace hP4 := hP4.below hb13
      replace hP5 := hP5.below hb13
      replace hP6 := hP6.below hb13
      replace hP7 := hP7.below hb13
      replace hP8 := hP8.below hb13
      replace hP9 := hP9.below hb13
      replace hP10 := hP10.below hb13
      go_wp2_with fail
      refine (sSame_any _ _ _ _ _ _ _ _ hP5 hP6).mono ?_
      rintro e w14 ⟨rfl, hb14⟩
      have hB14 := hB13.trans (hb14.mono hB13.size)
      replace hP3 := hP3.below hb14
      replace hP4 := hP4.below hb14
      replace hP5 := hP5.below hb14
      replace hP6 := hP6.below hb14
      replace hP7 := hP7.below hb14
      replace hP8 := hP8.below hb14
      replace hP9 := hP9.below hb14
      replace hP10 := hP10.below hb14
      go_wp2_with fail
      refine (sSame_any _ _ _ _ _ _ _ _ hP7 hP8).mono ?_
      rintro e w15 ⟨rfl, hb15⟩
      have hB15 := hB14.trans (hb15.mono hB14.size)
      replace hP3 := hP3.below hb15
      replace hP4 := hP4.below hb15
      replace hP5 := hP5.below hb15
      replace hP6 := hP6.below hb15
      replace hP7 := hP7.below hb15
      replace hP8 := hP8.below hb15
      replace hP9 := hP9.below hb15
      replace hP10 := hP10.below hb15
      go_wp2_with fail
      refine (sSame_any _ _ _ _ _ _ _ _ hP9 hP10).mono ?_
      rintro e w16 ⟨rfl, hb16⟩
      have hB16 := hB15.trans (hb16.mono hB15.size)
      replace hP3 := hP3.below hb16
      replace hP4 := hP4.below hb16
      replace hP5 := hP5.below hb16
      replace hP6 := hP6.below hb16
      replace hP7 := hP7.below hb16
      replace hP8 := hP8.below hb16
      replace hP9 := hP9.below hb16
      replace hP10 := hP10.below hb16
      go_wp2_with fail
      go_returns
      exact ⟨rfl, hB16⟩
end Go.Proofs.Ytljocgdhdilglaa
