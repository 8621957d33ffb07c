/- The law PolyRing as a call: it returns true. -/
import Derived.Test.YtljocgdhdilglaaGreatZr36
import Derived.Test.YtljocgdhdilglaaGreatZr48
import Derived.Test.YtljocgdhdilglaaGreatZr49
import Derived.Test.YtljocgdhdilglaaGreatZr51
set_option linter.unusedSimpArgs false
set_option linter.unusedVariables false

namespace Go.Proofs.YtljocgdhdilglaaGreat
open Go.RowKit
attribute [local go_sem] add_lit

theorem small_law {w : World} {A : Option Addr} {n c : Nat} {es : List WE} (hL : WL w A n c es) (h : smallE es = true) : PolyL w A n c (es.map WE.num) ∧ endOkP (es.map WE.num) = true ∧ BP 5 4 (es.map WE.num) := by
  unfold smallE at h
  simp only [Bool.and_eq_true, List.all_eq_true, decide_eq_true_eq] at h
  exact small_bp hL h.1 h.2.1 h.2.2

set_option maxRecDepth 100000 in
set_option maxHeartbeats 8000000 in
theorem law_ring (A B : Option Addr) (n c m d : Nat) (es fs : List WE) (na nb : Bool) (X Y : Option Addr) (nx cx ny cy : Nat) (la lb : List Nat) (w : World) (hp : WL w A n c es) (hq : WL w B m d fs) (hx : Lim w X nx cx la) (hy : Lim w Y ny cy lb) :
    Calls Tryz.prog 5 #[.slice A n c, .slice B m d, .agg #[.bool na, .slice X nx cx, .bool nb, .slice Y ny cy]] w fun e w' => e = .returned (.bool true) ∧ Below w.heap.size w w' := by
  obtain ⟨W0, hW0, hB, xb, sz⟩ := alloc1 w 27 #[.bool na, .slice X nx cx, .bool nb, .slice Y ny cy]
  replace hp := hide (hp.below hB)
  replace hq := hide (hq.below hB)
  replace hx := hide (hx.below hB)
  replace hy := hide (hy.below hB)
  replace xb := hide xb
  go_enter Tryz.func5, Tryz.ntmps5
  go_wp2_with fail
  refine (alive4_ok divide_ok W0).mono ?_
  rintro e w1 ⟨rfl, hb1⟩
  replace hB := hB.trans (hb1.mono hB.size)
  replace hp := hide (hp.out.below hb1)
  replace hq := hide (hq.out.below hb1)
  replace hx := hide (hx.out.below hb1)
  replace hy := hide (hy.out.below hb1)
  replace xb := hide (keep_blk hb1 xb.out)
  go_wp2_with fail
  refine (small_any A n c es w1 hp.out (smallE es) rfl).mono ?_
  rintro e w2 ⟨rfl, hb2⟩
  replace hB := hB.trans (hb2.mono hB.size)
  replace hp := hide (hp.out.below hb2)
  replace hq := hide (hq.out.below hb2)
  replace hx := hide (hx.out.below hb2)
  replace hy := hide (hy.out.below hb2)
  replace xb := hide (keep_blk hb2 xb.out)
  cases hsp : smallE es
  case false => (go_wp2_with fail; go_ret; exact ⟨rfl, hB⟩)
  replace hsp := hide hsp
  go_wp2_with fail
  refine (small_any B m d fs w2 hq.out (smallE fs) rfl).mono ?_
  rintro e w3 ⟨rfl, hb3⟩
  replace hB := hB.trans (hb3.mono hB.size)
  replace hp := hide (hp.out.below hb3)
  replace hq := hide (hq.out.below hb3)
  replace hx := hide (hx.out.below hb3)
  replace hy := hide (hy.out.below hb3)
  replace xb := hide (keep_blk hb3 xb.out)
  cases hsq : smallE fs
  case false => (go_wp2_with fail; go_ret; exact ⟨rfl, hB⟩)
  replace hsq := hide hsq
  obtain ⟨x0, x1, x2, x3, -⟩ := xb.out.four
  go_wp2_with fail
  clear x0 x1 x2 x3
  refine (rfGreat_ok na nb X Y nx cx ny cy w3 (decide (130 < nx) || decide (130 < ny)) rfl).mono ?_
  rintro e w4 ⟨rfl, hb4⟩
  replace hB := hB.trans (hb4.mono hB.size)
  replace hp := hide (hp.out.below hb4)
  replace hq := hide (hq.out.below hb4)
  replace hx := hide (hx.out.below hb4)
  replace hy := hide (hy.out.below hb4)
  replace xb := hide (keep_blk hb4 xb.out)
  cases hgr : (decide (130 < nx) || decide (130 < ny))
  case true => (go_wp2_with fail; go_ret; exact ⟨rfl, hB⟩)
  replace hgr := hide hgr
  obtain ⟨x0, x1, x2, x3, -⟩ := xb.out.four
  go_wp2_with fail
  clear x0 x1 x2 x3
  refine (rfCheck_any na nb X Y nx cx ny cy la lb w4 hx.out hy.out (okF na la nb lb) rfl).mono ?_
  rintro e w5 ⟨rfl, hb5⟩
  replace hB := hB.trans (hb5.mono hB.size)
  replace hp := hide (hp.out.below hb5)
  replace hq := hide (hq.out.below hb5)
  replace hx := hide (hx.out.below hb5)
  replace hy := hide (hy.out.below hb5)
  replace xb := hide (keep_blk hb5 xb.out)
  cases hok : okF na la nb lb
  case false => (simp only [errOf, Bool.false_eq_true, if_false]; go_wp2_with fail; go_ret; exact ⟨rfl, hB⟩)
  simp only [errOf, if_true]
  have xf := hide (raw_fr hx.out hy.out hok)
  replace hok := hide hok
  obtain ⟨x0, x1, x2, x3, -⟩ := xb.out.four
  go_wp2_with fail
  clear x0 x1 x2 x3
  refine (rfFew_ok na nb X Y nx cx ny cy w5).mono ?_
  rintro e w6 ⟨rfl, hb6⟩
  replace hB := hB.trans (hb6.mono hB.size)
  replace hp := hide (hp.out.below hb6)
  replace hq := hide (hq.out.below hb6)
  replace hx := hide (hx.out.below hb6)
  replace hy := hide (hy.out.below hb6)
  replace xf := hide (xf.out.below hb6)
  replace xb := hide (keep_blk hb6 xb.out)
  obtain ⟨k8, hk8⟩ : ∃ k, max nx ny = k := ⟨_, rfl⟩
  rw [hk8]
  replace hk8 := hide hk8
  by_cases h8 : 8 < k8
  case pos =>
    have t8 : decide ((8 : Int) < (k8 : Int)) = true := by simp; omega
    have t8' : decide (8 < k8) = true := by simpa using h8
    go_wp2_with fail; go_ret; exact ⟨rfl, hB⟩
  have t8 : decide ((8 : Int) < (k8 : Int)) = false := by simp; omega
  have t8' : decide (8 < k8) = false := by simpa using h8
  obtain ⟨nx8, ny8⟩ : nx ≤ 8 ∧ ny ≤ 8 := by have := hk8.out; omega
  clear hgr hok
  obtain ⟨P, hP⟩ : ∃ P, es.map WE.num = P := ⟨_, rfl⟩
  obtain ⟨Q, hQ⟩ : ∃ Q, fs.map WE.num = Q := ⟨_, rfl⟩
  obtain ⟨pp, pe, pb⟩ := small_law hp.out hsp.out
  obtain ⟨qp, qe, qb⟩ := small_law hq.out hsq.out
  rw [hP] at pp pe pb
  rw [hQ] at qp qe qb
  replace pp := hide pp
  replace qp := hide qp
  have hxn : (qOf na la lb).num.natAbs < pw 8 := Nat.lt_of_lt_of_le xf.out.1.lt_pw (pw_le nx8)
  have hxd : (qOf na la lb).den < pw 8 := by have := Nat.lt_of_lt_of_le xf.out.2.lt_pw (pw_le ny8); simpa using this
  generalize qOf na la lb = r at *
  clear hp hq hx hy hsp hsq hP hQ hk8
  go_wp2_with fail
  refine (Add_pl A B n c m d P Q w6 pp.out qp.out pe qe pb qb (by omega) (by omega) (by omega) (by omega)).mono ?_
  rintro e w7 ⟨hb, sA, sn, sc, rfl, s⟩
  replace hB := hB.trans (hb.mono hB.size)
  replace pp := hide (pp.out.below hb)
  replace qp := hide (qp.out.below hb)
  replace xf := hide (xf.out.below hb)
  replace xb := hide (keep_blk hb xb.out)
  clear hb
  replace s := hide s
  go_wp2_with fail
  refine (Sub_pl A B n c m d P Q w7 pp.out qp.out pe qe pb qb (by omega) (by omega) (by omega) (by omega)).mono ?_
  rintro e w8 ⟨hb, d_A, d_n, d_c, rfl, d_⟩
  replace hB := hB.trans (hb.mono hB.size)
  replace pp := hide (pp.out.below hb)
  replace qp := hide (qp.out.below hb)
  replace s := hide (s.out.below hb)
  replace xf := hide (xf.out.below hb)
  replace xb := hide (keep_blk hb xb.out)
  clear hb
  replace d_ := hide d_
  go_wp2_with fail
  refine (Mul_pl A B n c m d P Q w8 pp.out qp.out pe qe pb qb (by omega) (by omega) (by omega) (by omega)).mono ?_
  rintro e w9 ⟨hb, m_A, m_n, m_c, rfl, m_⟩
  replace hB := hB.trans (hb.mono hB.size)
  replace pp := hide (pp.out.below hb)
  replace qp := hide (qp.out.below hb)
  replace s := hide (s.out.below hb)
  replace d_ := hide (d_.out.below hb)
  replace xf := hide (xf.out.below hb)
  replace xb := hide (keep_blk hb xb.out)
  clear hb
  replace m_ := hide m_
  obtain ⟨x0, x1, x2, x3, -⟩ := xb.out.four
  go_wp2_with fail
  clear x0 x1 x2 x3
  refine (Eval_bp A n c P w9 na nb X Y nx cx ny cy r pp.out pe pb (by omega) (by omega) xf.out (by omega) (by omega)).mono ?_
  rintro e w10 ⟨hb, an, aA, ak, ac, am, aB, aj, ad, rfl, af⟩
  replace hB := hB.trans (hb.mono hB.size)
  replace pp := hide (pp.out.below hb)
  replace qp := hide (qp.out.below hb)
  replace s := hide (s.out.below hb)
  replace d_ := hide (d_.out.below hb)
  replace m_ := hide (m_.out.below hb)
  replace xf := hide (xf.out.below hb)
  replace xb := hide (keep_blk hb xb.out)
  clear hb
  replace af := hide af
  obtain ⟨Xa, hXa, hxa, za, -, -, -⟩ := new_obj 27 #[.bool false, .slice none 0 0, .bool false, .slice none 0 0] (Below.refl w10.heap.size w10) (Nat.le_refl _)
  obtain ⟨a0, a1, a2, a3, a4, a5, a6, a7⟩ := za.four
  obtain ⟨Ya, hYa, hya, ab, -⟩ := set_frac an aA ak ac am aB aj ad hxa (Nat.le_refl _) za
  replace af := hide (af.out.below hya)
  replace hB := hB.trans (hya.mono hB.size)
  replace pp := hide (pp.out.below hya)
  replace qp := hide (qp.out.below hya)
  replace s := hide (s.out.below hya)
  replace d_ := hide (d_.out.below hya)
  replace m_ := hide (m_.out.below hya)
  replace xf := hide (xf.out.below hya)
  replace xb := hide (keep_blk hya xb.out)
  replace ab := hide ab
  obtain ⟨x0, x1, x2, x3, -⟩ := xb.out.four
  go_wp2_with fail
  clear x0 x1 x2 x3
  clear hXa hxa za hYa hya a0 a1 a2 a3 a4 a5 a6 a7
  refine (Eval_bp B m d Q Ya na nb X Y nx cx ny cy r qp.out qe qb (by omega) (by omega) xf.out (by omega) (by omega)).mono ?_
  rintro e w11 ⟨hb, bn, bA, bk, bc, bm, bB, bj, bd, rfl, bf⟩
  replace hB := hB.trans (hb.mono hB.size)
  replace pp := hide (pp.out.below hb)
  replace qp := hide (qp.out.below hb)
  replace s := hide (s.out.below hb)
  replace d_ := hide (d_.out.below hb)
  replace m_ := hide (m_.out.below hb)
  replace xf := hide (xf.out.below hb)
  replace af := hide (af.out.below hb)
  replace xb := hide (keep_blk hb xb.out)
  replace ab := hide (keep_blk hb ab.out)
  clear hb
  replace bf := hide bf
  obtain ⟨Xb, hXb, hxb, zb, -, -, -⟩ := new_obj 27 #[.bool false, .slice none 0 0, .bool false, .slice none 0 0] (Below.refl w11.heap.size w11) (Nat.le_refl _)
  obtain ⟨b0, b1, b2, b3, b4, b5, b6, b7⟩ := zb.four
  obtain ⟨Yb, hYb, hyb, bb, -⟩ := set_frac bn bA bk bc bm bB bj bd hxb (Nat.le_refl _) zb
  replace bf := hide (bf.out.below hyb)
  replace hB := hB.trans (hyb.mono hB.size)
  replace pp := hide (pp.out.below hyb)
  replace qp := hide (qp.out.below hyb)
  replace s := hide (s.out.below hyb)
  replace d_ := hide (d_.out.below hyb)
  replace m_ := hide (m_.out.below hyb)
  replace xf := hide (xf.out.below hyb)
  replace af := hide (af.out.below hyb)
  replace xb := hide (keep_blk hyb xb.out)
  replace ab := hide (keep_blk hyb ab.out)
  replace bb := hide bb
  obtain ⟨ya0, ya1, ya2, ya3, -⟩ := ab.out.four
  go_wp2_with fail
  clear ya0 ya1 ya2 ya3
  clear hXb hxb zb hYb hyb b0 b1 b2 b3 b4 b5 b6 b7
  refine (rfCheck_ok an am aA aB ak ac aj ad _ Yb af.out).mono ?_
  rintro e w12 ⟨rfl, hb⟩
  replace hB := hB.trans (hb.mono hB.size)
  replace pp := hide (pp.out.below hb)
  replace qp := hide (qp.out.below hb)
  replace s := hide (s.out.below hb)
  replace d_ := hide (d_.out.below hb)
  replace m_ := hide (m_.out.below hb)
  replace xf := hide (xf.out.below hb)
  replace af := hide (af.out.below hb)
  replace bf := hide (bf.out.below hb)
  replace xb := hide (keep_blk hb xb.out)
  replace ab := hide (keep_blk hb ab.out)
  replace bb := hide (keep_blk hb bb.out)
  clear hb
  obtain ⟨yb0, yb1, yb2, yb3, -⟩ := bb.out.four
  go_wp2_with fail
  clear yb0 yb1 yb2 yb3
  refine (rfCheck_ok bn bm bA bB bk bc bj bd _ w12 bf.out).mono ?_
  rintro e w13 ⟨rfl, hb⟩
  replace hB := hB.trans (hb.mono hB.size)
  replace pp := hide (pp.out.below hb)
  replace qp := hide (qp.out.below hb)
  replace s := hide (s.out.below hb)
  replace d_ := hide (d_.out.below hb)
  replace m_ := hide (m_.out.below hb)
  replace xf := hide (xf.out.below hb)
  replace af := hide (af.out.below hb)
  replace bf := hide (bf.out.below hb)
  replace xb := hide (keep_blk hb xb.out)
  replace ab := hide (keep_blk hb ab.out)
  replace bb := hide (keep_blk hb bb.out)
  clear hb
  obtain ⟨x0, x1, x2, x3, -⟩ := xb.out.four
  go_wp2_with fail
  clear x0 x1 x2 x3
  refine (Eval_bp sA sn sc (trimP (joinP (fun a b => a + b) P Q)) w13 na nb X Y nx cx ny cy r s.out (endOkP_trim _) ((pb.join _ (fun a b => Int.natAbs_add_le a b) qb).trim) (by omega) (by omega) xf.out (by omega) (by omega)).mono ?_
  rintro e w14 ⟨hb, c_n, c_A, c_k, c_c, c_m, c_B, c_j, c_d, rfl, c_f⟩
  replace hB := hB.trans (hb.mono hB.size)
  replace pp := hide (pp.out.below hb)
  replace qp := hide (qp.out.below hb)
  replace s := hide (s.out.below hb)
  replace d_ := hide (d_.out.below hb)
  replace m_ := hide (m_.out.below hb)
  replace xf := hide (xf.out.below hb)
  replace af := hide (af.out.below hb)
  replace bf := hide (bf.out.below hb)
  replace xb := hide (keep_blk hb xb.out)
  replace ab := hide (keep_blk hb ab.out)
  replace bb := hide (keep_blk hb bb.out)
  clear hb
  replace c_f := hide c_f
  obtain ⟨Xc_, hXc_, hxc_, zc_, -, -, -⟩ := new_obj 27 #[.bool false, .slice none 0 0, .bool false, .slice none 0 0] (Below.refl w14.heap.size w14) (Nat.le_refl _)
  obtain ⟨c_0, c_1, c_2, c_3, c_4, c_5, c_6, c_7⟩ := zc_.four
  obtain ⟨Yc_, hYc_, hyc_, c_b, -⟩ := set_frac c_n c_A c_k c_c c_m c_B c_j c_d hxc_ (Nat.le_refl _) zc_
  replace c_f := hide (c_f.out.below hyc_)
  replace hB := hB.trans (hyc_.mono hB.size)
  replace pp := hide (pp.out.below hyc_)
  replace qp := hide (qp.out.below hyc_)
  replace s := hide (s.out.below hyc_)
  replace d_ := hide (d_.out.below hyc_)
  replace m_ := hide (m_.out.below hyc_)
  replace xf := hide (xf.out.below hyc_)
  replace af := hide (af.out.below hyc_)
  replace bf := hide (bf.out.below hyc_)
  replace xb := hide (keep_blk hyc_ xb.out)
  replace ab := hide (keep_blk hyc_ ab.out)
  replace bb := hide (keep_blk hyc_ bb.out)
  replace c_b := hide c_b
  obtain ⟨x0, x1, x2, x3, -⟩ := xb.out.four
  go_wp2_with fail
  clear x0 x1 x2 x3
  clear hXc_ hxc_ zc_ hYc_ hyc_ c_0 c_1 c_2 c_3 c_4 c_5 c_6 c_7
  refine (Eval_bp d_A d_n d_c (trimP (joinP (fun a b => a - b) P Q)) Yc_ na nb X Y nx cx ny cy r d_.out (endOkP_trim _) ((pb.join _ (fun a b => by omega) qb).trim) (by omega) (by omega) xf.out (by omega) (by omega)).mono ?_
  rintro e w15 ⟨hb, f_n, f_A, f_k, f_c, f_m, f_B, f_j, f_d, rfl, f_f⟩
  replace hB := hB.trans (hb.mono hB.size)
  replace pp := hide (pp.out.below hb)
  replace qp := hide (qp.out.below hb)
  replace s := hide (s.out.below hb)
  replace d_ := hide (d_.out.below hb)
  replace m_ := hide (m_.out.below hb)
  replace xf := hide (xf.out.below hb)
  replace af := hide (af.out.below hb)
  replace bf := hide (bf.out.below hb)
  replace c_f := hide (c_f.out.below hb)
  replace xb := hide (keep_blk hb xb.out)
  replace ab := hide (keep_blk hb ab.out)
  replace bb := hide (keep_blk hb bb.out)
  replace c_b := hide (keep_blk hb c_b.out)
  clear hb
  replace f_f := hide f_f
  obtain ⟨Xf_, hXf_, hxf_, zf_, -, -, -⟩ := new_obj 27 #[.bool false, .slice none 0 0, .bool false, .slice none 0 0] (Below.refl w15.heap.size w15) (Nat.le_refl _)
  obtain ⟨f_0, f_1, f_2, f_3, f_4, f_5, f_6, f_7⟩ := zf_.four
  obtain ⟨Yf_, hYf_, hyf_, f_b, -⟩ := set_frac f_n f_A f_k f_c f_m f_B f_j f_d hxf_ (Nat.le_refl _) zf_
  replace f_f := hide (f_f.out.below hyf_)
  replace hB := hB.trans (hyf_.mono hB.size)
  replace pp := hide (pp.out.below hyf_)
  replace qp := hide (qp.out.below hyf_)
  replace s := hide (s.out.below hyf_)
  replace d_ := hide (d_.out.below hyf_)
  replace m_ := hide (m_.out.below hyf_)
  replace xf := hide (xf.out.below hyf_)
  replace af := hide (af.out.below hyf_)
  replace bf := hide (bf.out.below hyf_)
  replace c_f := hide (c_f.out.below hyf_)
  replace xb := hide (keep_blk hyf_ xb.out)
  replace ab := hide (keep_blk hyf_ ab.out)
  replace bb := hide (keep_blk hyf_ bb.out)
  replace c_b := hide (keep_blk hyf_ c_b.out)
  replace f_b := hide f_b
  obtain ⟨x0, x1, x2, x3, -⟩ := xb.out.four
  go_wp2_with fail
  clear x0 x1 x2 x3
  clear hXf_ hxf_ zf_ hYf_ hyf_ f_0 f_1 f_2 f_3 f_4 f_5 f_6 f_7
  refine (Eval_bp m_A m_n m_c (trimP (mulP P Q)) Yf_ na nb X Y nx cx ny cy r m_.out (endOkP_trim _) ((pb.mul qb (by omega)).trim) (by omega) (by omega) xf.out (by omega) (by omega)).mono ?_
  rintro e w16 ⟨hb, g_n, g_A, g_k, g_c, g_m, g_B, g_j, g_d, rfl, g_f⟩
  replace hB := hB.trans (hb.mono hB.size)
  replace pp := hide (pp.out.below hb)
  replace qp := hide (qp.out.below hb)
  replace s := hide (s.out.below hb)
  replace d_ := hide (d_.out.below hb)
  replace m_ := hide (m_.out.below hb)
  replace xf := hide (xf.out.below hb)
  replace af := hide (af.out.below hb)
  replace bf := hide (bf.out.below hb)
  replace c_f := hide (c_f.out.below hb)
  replace f_f := hide (f_f.out.below hb)
  replace xb := hide (keep_blk hb xb.out)
  replace ab := hide (keep_blk hb ab.out)
  replace bb := hide (keep_blk hb bb.out)
  replace c_b := hide (keep_blk hb c_b.out)
  replace f_b := hide (keep_blk hb f_b.out)
  clear hb
  replace g_f := hide g_f
  obtain ⟨Xg_, hXg_, hxg_, zg_, -, -, -⟩ := new_obj 27 #[.bool false, .slice none 0 0, .bool false, .slice none 0 0] (Below.refl w16.heap.size w16) (Nat.le_refl _)
  obtain ⟨g_0, g_1, g_2, g_3, g_4, g_5, g_6, g_7⟩ := zg_.four
  obtain ⟨Yg_, hYg_, hyg_, g_b, -⟩ := set_frac g_n g_A g_k g_c g_m g_B g_j g_d hxg_ (Nat.le_refl _) zg_
  replace g_f := hide (g_f.out.below hyg_)
  replace hB := hB.trans (hyg_.mono hB.size)
  replace pp := hide (pp.out.below hyg_)
  replace qp := hide (qp.out.below hyg_)
  replace s := hide (s.out.below hyg_)
  replace d_ := hide (d_.out.below hyg_)
  replace m_ := hide (m_.out.below hyg_)
  replace xf := hide (xf.out.below hyg_)
  replace af := hide (af.out.below hyg_)
  replace bf := hide (bf.out.below hyg_)
  replace c_f := hide (c_f.out.below hyg_)
  replace f_f := hide (f_f.out.below hyg_)
  replace xb := hide (keep_blk hyg_ xb.out)
  replace ab := hide (keep_blk hyg_ ab.out)
  replace bb := hide (keep_blk hyg_ bb.out)
  replace c_b := hide (keep_blk hyg_ c_b.out)
  replace f_b := hide (keep_blk hyg_ f_b.out)
  replace g_b := hide g_b
  have sma : Sm (evalQ P r) := (eval_smN pb (by omega) hxn hxd).sm (by omega) (by omega)
  have smb : Sm (evalQ Q r) := (eval_smN qb (by omega) hxn hxd).sm (by omega) (by omega)
  replace sma := hide sma
  replace smb := hide smb
  obtain ⟨ya0, ya1, ya2, ya3, -⟩ := ab.out.four
  obtain ⟨yb0, yb1, yb2, yb3, -⟩ := bb.out.four
  go_wp2_with fail
  clear ya0 ya1 ya2 ya3
  clear yb0 yb1 yb2 yb3
  clear hXg_ hxg_ zg_ hYg_ hyg_ g_0 g_1 g_2 g_3 g_4 g_5 g_6 g_7
  refine (rfPlus_ok an am bn bm aA aB bA bB ak ac aj ad bk bc bj bd _ _ Yg_ af.out bf.out sma.out smb.out).mono ?_
  rintro e w17 ⟨hb, h_n, h_A, h_k, h_c, h_m, h_B, h_j, h_d, rfl, h_f⟩
  replace hB := hB.trans (hb.mono hB.size)
  replace pp := hide (pp.out.below hb)
  replace qp := hide (qp.out.below hb)
  replace s := hide (s.out.below hb)
  replace d_ := hide (d_.out.below hb)
  replace m_ := hide (m_.out.below hb)
  replace xf := hide (xf.out.below hb)
  replace af := hide (af.out.below hb)
  replace bf := hide (bf.out.below hb)
  replace c_f := hide (c_f.out.below hb)
  replace f_f := hide (f_f.out.below hb)
  replace g_f := hide (g_f.out.below hb)
  replace xb := hide (keep_blk hb xb.out)
  replace ab := hide (keep_blk hb ab.out)
  replace bb := hide (keep_blk hb bb.out)
  replace c_b := hide (keep_blk hb c_b.out)
  replace f_b := hide (keep_blk hb f_b.out)
  replace g_b := hide (keep_blk hb g_b.out)
  clear hb
  replace h_f := hide h_f
  obtain ⟨Xh_, hXh_, hxh_, zh_, -, -, -⟩ := new_obj 27 #[.bool false, .slice none 0 0, .bool false, .slice none 0 0] (Below.refl w17.heap.size w17) (Nat.le_refl _)
  obtain ⟨h_0, h_1, h_2, h_3, h_4, h_5, h_6, h_7⟩ := zh_.four
  obtain ⟨Yh_, hYh_, hyh_, h_b, -⟩ := set_frac h_n h_A h_k h_c h_m h_B h_j h_d hxh_ (Nat.le_refl _) zh_
  replace h_f := hide (h_f.out.below hyh_)
  replace hB := hB.trans (hyh_.mono hB.size)
  replace pp := hide (pp.out.below hyh_)
  replace qp := hide (qp.out.below hyh_)
  replace s := hide (s.out.below hyh_)
  replace d_ := hide (d_.out.below hyh_)
  replace m_ := hide (m_.out.below hyh_)
  replace xf := hide (xf.out.below hyh_)
  replace af := hide (af.out.below hyh_)
  replace bf := hide (bf.out.below hyh_)
  replace c_f := hide (c_f.out.below hyh_)
  replace f_f := hide (f_f.out.below hyh_)
  replace g_f := hide (g_f.out.below hyh_)
  replace xb := hide (keep_blk hyh_ xb.out)
  replace ab := hide (keep_blk hyh_ ab.out)
  replace bb := hide (keep_blk hyh_ bb.out)
  replace c_b := hide (keep_blk hyh_ c_b.out)
  replace f_b := hide (keep_blk hyh_ f_b.out)
  replace g_b := hide (keep_blk hyh_ g_b.out)
  replace h_b := hide h_b
  obtain ⟨ya0, ya1, ya2, ya3, -⟩ := ab.out.four
  obtain ⟨yb0, yb1, yb2, yb3, -⟩ := bb.out.four
  go_wp2_with fail
  clear ya0 ya1 ya2 ya3
  clear yb0 yb1 yb2 yb3
  clear hXh_ hxh_ zh_ hYh_ hyh_ h_0 h_1 h_2 h_3 h_4 h_5 h_6 h_7
  refine (rfMinus_ok an am bn bm aA aB bA bB ak ac aj ad bk bc bj bd _ _ Yh_ af.out bf.out sma.out smb.out).mono ?_
  rintro e w18 ⟨hb, i_n, i_A, i_k, i_c, i_m, i_B, i_j, i_d, rfl, i_f⟩
  replace hB := hB.trans (hb.mono hB.size)
  replace pp := hide (pp.out.below hb)
  replace qp := hide (qp.out.below hb)
  replace s := hide (s.out.below hb)
  replace d_ := hide (d_.out.below hb)
  replace m_ := hide (m_.out.below hb)
  replace xf := hide (xf.out.below hb)
  replace af := hide (af.out.below hb)
  replace bf := hide (bf.out.below hb)
  replace c_f := hide (c_f.out.below hb)
  replace f_f := hide (f_f.out.below hb)
  replace g_f := hide (g_f.out.below hb)
  replace h_f := hide (h_f.out.below hb)
  replace xb := hide (keep_blk hb xb.out)
  replace ab := hide (keep_blk hb ab.out)
  replace bb := hide (keep_blk hb bb.out)
  replace c_b := hide (keep_blk hb c_b.out)
  replace f_b := hide (keep_blk hb f_b.out)
  replace g_b := hide (keep_blk hb g_b.out)
  replace h_b := hide (keep_blk hb h_b.out)
  clear hb
  replace i_f := hide i_f
  obtain ⟨Xi_, hXi_, hxi_, zi_, -, -, -⟩ := new_obj 27 #[.bool false, .slice none 0 0, .bool false, .slice none 0 0] (Below.refl w18.heap.size w18) (Nat.le_refl _)
  obtain ⟨i_0, i_1, i_2, i_3, i_4, i_5, i_6, i_7⟩ := zi_.four
  obtain ⟨Yi_, hYi_, hyi_, i_b, -⟩ := set_frac i_n i_A i_k i_c i_m i_B i_j i_d hxi_ (Nat.le_refl _) zi_
  replace i_f := hide (i_f.out.below hyi_)
  replace hB := hB.trans (hyi_.mono hB.size)
  replace pp := hide (pp.out.below hyi_)
  replace qp := hide (qp.out.below hyi_)
  replace s := hide (s.out.below hyi_)
  replace d_ := hide (d_.out.below hyi_)
  replace m_ := hide (m_.out.below hyi_)
  replace xf := hide (xf.out.below hyi_)
  replace af := hide (af.out.below hyi_)
  replace bf := hide (bf.out.below hyi_)
  replace c_f := hide (c_f.out.below hyi_)
  replace f_f := hide (f_f.out.below hyi_)
  replace g_f := hide (g_f.out.below hyi_)
  replace h_f := hide (h_f.out.below hyi_)
  replace xb := hide (keep_blk hyi_ xb.out)
  replace ab := hide (keep_blk hyi_ ab.out)
  replace bb := hide (keep_blk hyi_ bb.out)
  replace c_b := hide (keep_blk hyi_ c_b.out)
  replace f_b := hide (keep_blk hyi_ f_b.out)
  replace g_b := hide (keep_blk hyi_ g_b.out)
  replace h_b := hide (keep_blk hyi_ h_b.out)
  replace i_b := hide i_b
  obtain ⟨ya0, ya1, ya2, ya3, -⟩ := ab.out.four
  obtain ⟨yb0, yb1, yb2, yb3, -⟩ := bb.out.four
  go_wp2_with fail
  clear ya0 ya1 ya2 ya3
  clear yb0 yb1 yb2 yb3
  clear hXi_ hxi_ zi_ hYi_ hyi_ i_0 i_1 i_2 i_3 i_4 i_5 i_6 i_7
  refine (rfTimes_ok an am bn bm aA aB bA bB ak ac aj ad bk bc bj bd _ _ Yi_ af.out bf.out sma.out smb.out).mono ?_
  rintro e w19 ⟨hb, k_n, k_A, k_k, k_c, k_m, k_B, k_j, k_d, rfl, k_f⟩
  replace hB := hB.trans (hb.mono hB.size)
  replace pp := hide (pp.out.below hb)
  replace qp := hide (qp.out.below hb)
  replace s := hide (s.out.below hb)
  replace d_ := hide (d_.out.below hb)
  replace m_ := hide (m_.out.below hb)
  replace xf := hide (xf.out.below hb)
  replace af := hide (af.out.below hb)
  replace bf := hide (bf.out.below hb)
  replace c_f := hide (c_f.out.below hb)
  replace f_f := hide (f_f.out.below hb)
  replace g_f := hide (g_f.out.below hb)
  replace h_f := hide (h_f.out.below hb)
  replace i_f := hide (i_f.out.below hb)
  replace xb := hide (keep_blk hb xb.out)
  replace ab := hide (keep_blk hb ab.out)
  replace bb := hide (keep_blk hb bb.out)
  replace c_b := hide (keep_blk hb c_b.out)
  replace f_b := hide (keep_blk hb f_b.out)
  replace g_b := hide (keep_blk hb g_b.out)
  replace h_b := hide (keep_blk hb h_b.out)
  replace i_b := hide (keep_blk hb i_b.out)
  clear hb
  replace k_f := hide k_f
  obtain ⟨Xk_, hXk_, hxk_, zk_, -, -, -⟩ := new_obj 27 #[.bool false, .slice none 0 0, .bool false, .slice none 0 0] (Below.refl w19.heap.size w19) (Nat.le_refl _)
  obtain ⟨k_0, k_1, k_2, k_3, k_4, k_5, k_6, k_7⟩ := zk_.four
  obtain ⟨Yk_, hYk_, hyk_, k_b, -⟩ := set_frac k_n k_A k_k k_c k_m k_B k_j k_d hxk_ (Nat.le_refl _) zk_
  replace k_f := hide (k_f.out.below hyk_)
  replace hB := hB.trans (hyk_.mono hB.size)
  replace pp := hide (pp.out.below hyk_)
  replace qp := hide (qp.out.below hyk_)
  replace s := hide (s.out.below hyk_)
  replace d_ := hide (d_.out.below hyk_)
  replace m_ := hide (m_.out.below hyk_)
  replace xf := hide (xf.out.below hyk_)
  replace af := hide (af.out.below hyk_)
  replace bf := hide (bf.out.below hyk_)
  replace c_f := hide (c_f.out.below hyk_)
  replace f_f := hide (f_f.out.below hyk_)
  replace g_f := hide (g_f.out.below hyk_)
  replace h_f := hide (h_f.out.below hyk_)
  replace i_f := hide (i_f.out.below hyk_)
  replace xb := hide (keep_blk hyk_ xb.out)
  replace ab := hide (keep_blk hyk_ ab.out)
  replace bb := hide (keep_blk hyk_ bb.out)
  replace c_b := hide (keep_blk hyk_ c_b.out)
  replace f_b := hide (keep_blk hyk_ f_b.out)
  replace g_b := hide (keep_blk hyk_ g_b.out)
  replace h_b := hide (keep_blk hyk_ h_b.out)
  replace i_b := hide (keep_blk hyk_ i_b.out)
  replace k_b := hide k_b
  obtain ⟨yx0, yx1, yx2, yx3, -⟩ := c_b.out.four
  obtain ⟨yy0, yy1, yy2, yy3, -⟩ := h_b.out.four
  go_wp2_with fail
  clear yx0 yx1 yx2 yx3
  clear yy0 yy1 yy2 yy3
  clear hXk_ hxk_ zk_ hYk_ hyk_ k_0 k_1 k_2 k_3 k_4 k_5 k_6 k_7
  refine (rfSame_any c_n c_m h_n h_m c_A c_B h_A h_B c_k c_c c_j c_d h_k h_c h_j h_d _ _ Yk_ c_f.out h_f.out true (by simp only [decide_eq_true_eq]; rw [evalQ_trim]; exact evalQ_add P Q r)).mono ?_
  rintro e w20 ⟨rfl, hb⟩
  replace hB := hB.trans (hb.mono hB.size)
  replace pp := hide (pp.out.below hb)
  replace qp := hide (qp.out.below hb)
  replace s := hide (s.out.below hb)
  replace d_ := hide (d_.out.below hb)
  replace m_ := hide (m_.out.below hb)
  replace xf := hide (xf.out.below hb)
  replace af := hide (af.out.below hb)
  replace bf := hide (bf.out.below hb)
  replace c_f := hide (c_f.out.below hb)
  replace f_f := hide (f_f.out.below hb)
  replace g_f := hide (g_f.out.below hb)
  replace h_f := hide (h_f.out.below hb)
  replace i_f := hide (i_f.out.below hb)
  replace k_f := hide (k_f.out.below hb)
  replace xb := hide (keep_blk hb xb.out)
  replace ab := hide (keep_blk hb ab.out)
  replace bb := hide (keep_blk hb bb.out)
  replace c_b := hide (keep_blk hb c_b.out)
  replace f_b := hide (keep_blk hb f_b.out)
  replace g_b := hide (keep_blk hb g_b.out)
  replace h_b := hide (keep_blk hb h_b.out)
  replace i_b := hide (keep_blk hb i_b.out)
  replace k_b := hide (keep_blk hb k_b.out)
  clear hb
  obtain ⟨yx0, yx1, yx2, yx3, -⟩ := f_b.out.four
  obtain ⟨yy0, yy1, yy2, yy3, -⟩ := i_b.out.four
  go_wp2_with fail
  clear yx0 yx1 yx2 yx3
  clear yy0 yy1 yy2 yy3
  refine (rfSame_any f_n f_m i_n i_m f_A f_B i_A i_B f_k f_c f_j f_d i_k i_c i_j i_d _ _ w20 f_f.out i_f.out true (by simp only [decide_eq_true_eq]; rw [evalQ_trim]; exact evalQ_sub P Q r)).mono ?_
  rintro e w21 ⟨rfl, hb⟩
  replace hB := hB.trans (hb.mono hB.size)
  replace pp := hide (pp.out.below hb)
  replace qp := hide (qp.out.below hb)
  replace s := hide (s.out.below hb)
  replace d_ := hide (d_.out.below hb)
  replace m_ := hide (m_.out.below hb)
  replace xf := hide (xf.out.below hb)
  replace af := hide (af.out.below hb)
  replace bf := hide (bf.out.below hb)
  replace c_f := hide (c_f.out.below hb)
  replace f_f := hide (f_f.out.below hb)
  replace g_f := hide (g_f.out.below hb)
  replace h_f := hide (h_f.out.below hb)
  replace i_f := hide (i_f.out.below hb)
  replace k_f := hide (k_f.out.below hb)
  replace xb := hide (keep_blk hb xb.out)
  replace ab := hide (keep_blk hb ab.out)
  replace bb := hide (keep_blk hb bb.out)
  replace c_b := hide (keep_blk hb c_b.out)
  replace f_b := hide (keep_blk hb f_b.out)
  replace g_b := hide (keep_blk hb g_b.out)
  replace h_b := hide (keep_blk hb h_b.out)
  replace i_b := hide (keep_blk hb i_b.out)
  replace k_b := hide (keep_blk hb k_b.out)
  clear hb
  obtain ⟨yx0, yx1, yx2, yx3, -⟩ := g_b.out.four
  obtain ⟨yy0, yy1, yy2, yy3, -⟩ := k_b.out.four
  go_wp2_with fail
  clear yx0 yx1 yx2 yx3
  clear yy0 yy1 yy2 yy3
  refine (rfSame_any g_n g_m k_n k_m g_A g_B k_A k_B g_k g_c g_j g_d k_k k_c k_j k_d _ _ w21 g_f.out k_f.out true (by simp only [decide_eq_true_eq]; rw [evalQ_trim]; exact evalQ_mul P Q r)).mono ?_
  rintro e w22 ⟨rfl, hb⟩
  replace hB := hB.trans (hb.mono hB.size)
  replace pp := hide (pp.out.below hb)
  replace qp := hide (qp.out.below hb)
  replace s := hide (s.out.below hb)
  replace d_ := hide (d_.out.below hb)
  replace m_ := hide (m_.out.below hb)
  replace xf := hide (xf.out.below hb)
  replace af := hide (af.out.below hb)
  replace bf := hide (bf.out.below hb)
  replace c_f := hide (c_f.out.below hb)
  replace f_f := hide (f_f.out.below hb)
  replace g_f := hide (g_f.out.below hb)
  replace h_f := hide (h_f.out.below hb)
  replace i_f := hide (i_f.out.below hb)
  replace k_f := hide (k_f.out.below hb)
  replace xb := hide (keep_blk hb xb.out)
  replace ab := hide (keep_blk hb ab.out)
  replace bb := hide (keep_blk hb bb.out)
  replace c_b := hide (keep_blk hb c_b.out)
  replace f_b := hide (keep_blk hb f_b.out)
  replace g_b := hide (keep_blk hb g_b.out)
  replace h_b := hide (keep_blk hb h_b.out)
  replace i_b := hide (keep_blk hb i_b.out)
  replace k_b := hide (keep_blk hb k_b.out)
  clear hb
  go_wp2_with fail
  refine (Deriv_pl m_A m_n m_c (trimP (mulP P Q)) w22 m_.out (endOkP_trim _) ((pb.mul qb (by omega)).trim) (by omega) (by omega)).mono ?_
  rintro e w23 ⟨hb, l_A, l_n, l_c, rfl, l_⟩
  replace hB := hB.trans (hb.mono hB.size)
  replace pp := hide (pp.out.below hb)
  replace qp := hide (qp.out.below hb)
  replace s := hide (s.out.below hb)
  replace d_ := hide (d_.out.below hb)
  replace m_ := hide (m_.out.below hb)
  clear hb
  replace l_ := hide l_
  go_wp2_with fail
  refine (Deriv_pl A n c P w23 pp.out pe pb (by omega) (by omega)).mono ?_
  rintro e w24 ⟨hb, u_A, u_n, u_c, rfl, u_⟩
  replace hB := hB.trans (hb.mono hB.size)
  replace pp := hide (pp.out.below hb)
  replace qp := hide (qp.out.below hb)
  replace s := hide (s.out.below hb)
  replace d_ := hide (d_.out.below hb)
  replace m_ := hide (m_.out.below hb)
  replace l_ := hide (l_.out.below hb)
  clear hb
  replace u_ := hide u_
  go_wp2_with fail
  refine (Deriv_pl B m d Q w24 qp.out qe qb (by omega) (by omega)).mono ?_
  rintro e w25 ⟨hb, v_A, v_n, v_c, rfl, v_⟩
  replace hB := hB.trans (hb.mono hB.size)
  replace pp := hide (pp.out.below hb)
  replace qp := hide (qp.out.below hb)
  replace s := hide (s.out.below hb)
  replace d_ := hide (d_.out.below hb)
  replace m_ := hide (m_.out.below hb)
  replace l_ := hide (l_.out.below hb)
  replace u_ := hide (u_.out.below hb)
  clear hb
  replace v_ := hide v_
  go_wp2_with fail
  refine (Mul_pl u_A B u_n u_c m d (trimP (derP P)) Q w25 u_.out qp.out (endOkP_trim _) qe ((pb.der (by omega)).trim) qb (by omega) (by omega) (by omega) (by omega)).mono ?_
  rintro e w26 ⟨hb, w_A, w_n, w_c, rfl, w_⟩
  replace hB := hB.trans (hb.mono hB.size)
  replace pp := hide (pp.out.below hb)
  replace qp := hide (qp.out.below hb)
  replace s := hide (s.out.below hb)
  replace d_ := hide (d_.out.below hb)
  replace m_ := hide (m_.out.below hb)
  replace l_ := hide (l_.out.below hb)
  replace u_ := hide (u_.out.below hb)
  replace v_ := hide (v_.out.below hb)
  clear hb
  replace w_ := hide w_
  go_wp2_with fail
  refine (Mul_pl A v_A n c v_n v_c P (trimP (derP Q)) w26 pp.out v_.out pe (endOkP_trim _) pb ((qb.der (by omega)).trim) (by omega) (by omega) (by omega) (by omega)).mono ?_
  rintro e w27 ⟨hb, y_A, y_n, y_c, rfl, y_⟩
  replace hB := hB.trans (hb.mono hB.size)
  replace pp := hide (pp.out.below hb)
  replace qp := hide (qp.out.below hb)
  replace s := hide (s.out.below hb)
  replace d_ := hide (d_.out.below hb)
  replace m_ := hide (m_.out.below hb)
  replace l_ := hide (l_.out.below hb)
  replace u_ := hide (u_.out.below hb)
  replace v_ := hide (v_.out.below hb)
  replace w_ := hide (w_.out.below hb)
  clear hb
  replace y_ := hide y_
  go_wp2_with fail
  refine (Add_pl w_A y_A w_n w_c y_n y_c (trimP (mulP (trimP (derP P)) Q)) (trimP (mulP P (trimP (derP Q)))) w27 w_.out y_.out (endOkP_trim _) (endOkP_trim _) ((((pb.der (by omega)).trim).mul qb (by omega)).trim) ((pb.mul ((qb.der (by omega)).trim) (by omega)).trim) (by omega) (by omega) (by omega) (by omega)).mono ?_
  rintro e w28 ⟨hb, z_A, z_n, z_c, rfl, z_⟩
  replace hB := hB.trans (hb.mono hB.size)
  replace pp := hide (pp.out.below hb)
  replace qp := hide (qp.out.below hb)
  replace s := hide (s.out.below hb)
  replace d_ := hide (d_.out.below hb)
  replace m_ := hide (m_.out.below hb)
  replace l_ := hide (l_.out.below hb)
  replace u_ := hide (u_.out.below hb)
  replace v_ := hide (v_.out.below hb)
  replace w_ := hide (w_.out.below hb)
  replace y_ := hide (y_.out.below hb)
  clear hb
  replace z_ := hide z_
  have hlz : trimP (derP (trimP (mulP P Q))) = trimP (joinP (fun a b => a + b) (trimP (mulP (trimP (derP P)) Q)) (trimP (mulP P (trimP (derP Q))))) := der_mul P Q
  rw [← hlz] at z_
  replace hlz := hide hlz
  go_wp2_with fail
  refine (sSame_any _ _ _ _ _ _ (trimP (derP (trimP (mulP P Q)))) w28 l_.out z_.out).mono ?_
  rintro e w29 ⟨rfl, hb⟩
  replace hB := hB.trans (hb.mono hB.size)
  replace pp := hide (pp.out.below hb)
  replace qp := hide (qp.out.below hb)
  replace s := hide (s.out.below hb)
  replace d_ := hide (d_.out.below hb)
  replace m_ := hide (m_.out.below hb)
  replace l_ := hide (l_.out.below hb)
  replace u_ := hide (u_.out.below hb)
  replace v_ := hide (v_.out.below hb)
  replace w_ := hide (w_.out.below hb)
  replace y_ := hide (y_.out.below hb)
  replace z_ := hide (z_.out.below hb)
  go_wp2_with fail
  go_ret
  exact ⟨rfl, hB⟩
end Go.Proofs.YtljocgdhdilglaaGreat
