/- Centroids: moments (plain). -/
import Derived.Test.YtkippclhbkjbmaaZn33
import Derived.Test.YtkippclhbkjbmaaZn35
set_option linter.unusedSimpArgs false
set_option linter.unusedVariables false

namespace Go.Proofs.Ytkippclhbkjbmaa
open Go.RowKit

/-- The numbers of a moment. -/
structure Mom where
  s : Int
  x : Int × Int
  y : Int × Int
  xx : Int × Int
  xy : Int × Int
  yy : Int × Int
def Mom.zero : Mom := ⟨0, (0, 0), (0, 0), (0, 0), (0, 0), (0, 0)⟩

def colv (W i : Int) : Int := i % W
def rowv (W i : Int) : Int := i / W
def psum (ps l : List Int) : Int := sumK (pix ps) l l.length
def mean1 (u : Int → Int) (ps l : List Int) : Rat := Rat.divInt (sumK (fun i => u i * pix ps i) l l.length) (psum ps l)
def mean2 (u v : Int → Int) (ps l : List Int) : Rat := Rat.divInt (sumK (fun i => u i * v i * pix ps i) l l.length) (psum ps l)
def central (u v : Int → Int) (ps l : List Int) : Rat := mean2 u v ps l - mean1 u ps l * mean1 v ps l
def momOf (W : Int) (ps l : List Int) : Mom := ⟨psum ps l, prQ (mean1 (colv W) ps l), prQ (mean1 (rowv W) ps l), prQ (central (colv W) (colv W) ps l), prQ (central (colv W) (rowv W) ps l), prQ (central (rowv W) (rowv W) ps l)⟩
def momE (W H : Int) (n : Nat) (ps l : List Int) : Int := if startE W H n ps l = 0 then (if psum ps l ≤ 0 then 18 else 0) else startE W H n ps l
def momM (W H : Int) (n : Nat) (ps l : List Int) : Mom := if momE W H n ps l = 0 then momOf W ps l else Mom.zero

/-- A moment in memory. -/
def MomF (w : World) (cs : Array Value) (M : Mom) : Prop :=
  ∃ n0 A0 k0 c0 m0 B0 j0 d0 n1 A1 k1 c1 m1 B1 j1 d1 n2 A2 k2 c2 m2 B2 j2 d2 n3 A3 k3 c3 m3 B3 j3 d3 n4 A4 k4 c4 m4 B4 j4 d4,
    cs = #[.int .i64 M.s, .bool n0, .slice A0 k0 c0, .bool m0, .slice B0 j0 d0, .bool n1, .slice A1 k1 c1, .bool m1, .slice B1 j1 d1, .bool n2, .slice A2 k2 c2, .bool m2, .slice B2 j2 d2, .bool n3, .slice A3 k3 c3, .bool m3, .slice B3 j3 d3, .bool n4, .slice A4 k4 c4, .bool m4, .slice B4 j4 d4] ∧
    Fz w n0 A0 k0 c0 m0 B0 j0 d0 M.x ∧ Fz w n1 A1 k1 c1 m1 B1 j1 d1 M.y ∧ Fz w n2 A2 k2 c2 m2 B2 j2 d2 M.xx ∧ Fz w n3 A3 k3 c3 m3 B3 j3 d3 M.xy ∧ Fz w n4 A4 k4 c4 m4 B4 j4 d4 M.yy
theorem MomF.below {w w' : World} {cs : Array Value} {M : Mom} (h : MomF w cs M) (hb : Below w.heap.size w w') : MomF w' cs M := by
  obtain ⟨n0, A0, k0, c0, m0, B0, j0, d0, n1, A1, k1, c1, m1, B1, j1, d1, n2, A2, k2, c2, m2, B2, j2, d2, n3, A3, k3, c3, m3, B3, j3, d3, n4, A4, k4, c4, m4, B4, j4, d4, rfl, h0, h1, h2, h3, h4⟩ := h
  exact ⟨_, _, _, _, _, _, _, _, _, _, _, _, _, _, _, _, _, _, _, _, _, _, _, _, _, _, _, _, _, _, _, _, _, _, _, _, _, _, _, _, rfl, h0.below hb, h1.below hb, h2.below hb, h3.below hb, h4.below hb⟩
/-- What 'Moments' hands back. -/
def MomP (w : World) (E : Int) (M : Mom) (e : Ending) (w' : World) : Prop :=
  Below w.heap.size w w' ∧ ∃ cs, e = .returned (.tuple #[.agg cs, .int .i64 E]) ∧ MomF w' cs M
theorem MomF.zero (w : World) : MomF w #[.int .i64 0, .bool false, .slice none 0 0, .bool false, .slice none 0 0, .bool false, .slice none 0 0, .bool false, .slice none 0 0, .bool false, .slice none 0 0, .bool false, .slice none 0 0, .bool false, .slice none 0 0, .bool false, .slice none 0 0, .bool false, .slice none 0 0, .bool false, .slice none 0 0] Mom.zero :=
  have z : Fz w false none 0 0 false none 0 0 (0, 0) := ⟨Wd.zero w, Wd.zero w⟩
  ⟨_, _, _, _, _, _, _, _, _, _, _, _, _, _, _, _, _, _, _, _, _, _, _, _, _, _, _, _, _, _, _, _, _, _, _, _, _, _, _, _, rfl, z, z, z, z, z⟩

theorem colv_bound {W H i : Int} {n : Nat} (h : 1 ≤ W ∧ W ≤ 100 ∧ 1 ≤ H ∧ H ≤ 100 ∧ (n : Int) = W * H) (h0 : 0 ≤ i) (h1 : i < n) : 0 ≤ colv W i ∧ colv W i ≤ 99 := by
  have a1 := Int.emod_nonneg i (show W ≠ 0 by omega)
  have a2 := Int.emod_lt_of_pos i (show 0 < W by omega)
  unfold colv; omega
theorem rowv_bound {W H i : Int} {n : Nat} (h : 1 ≤ W ∧ W ≤ 100 ∧ 1 ≤ H ∧ H ≤ 100 ∧ (n : Int) = W * H) (h0 : 0 ≤ i) (h1 : i < n) : 0 ≤ rowv W i ∧ rowv W i ≤ 99 := by
  have a1 := Int.ediv_nonneg h0 (show 0 ≤ W by omega)
  have a2 : i / W < H := Int.ediv_lt_of_lt_mul (show 0 < W by omega) (by rw [Int.mul_comm]; omega)
  unfold rowv; omega
end Go.Proofs.Ytkippclhbkjbmaa
