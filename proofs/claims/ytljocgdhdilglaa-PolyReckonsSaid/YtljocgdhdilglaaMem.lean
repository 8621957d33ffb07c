/- Words for memory: limbs that a slice holds; a block that is known whole. -/
import Derived.WalkKit
import Derived.WalkSpells
import Derived.WalkLawsBesides
import Derived.Lib.Hide
import Derived.Laws.OwnMore
import Derived.Deep.AppendLies
import Derived.Deep.Draws
import Derived.Laws.Rows
import Derived.Deep.OwnRows
import Derived.OwnWalk
import Derived.Handy
import Derived.IntWalk
import Derived.Test.YtljocgdhdilglaaLimb
namespace Go.Proofs.Ytljocgdhdilglaa
open Go.RowKit

theorem hide {p : Prop} (h : p) : Hid p := h

theorem block_of_add (a : Addr) (n : Nat) : (a.add n).block = a.block := by unfold Addr.add; split <;> rfl
theorem add_of_add (a : Addr) (i j : Nat) : (a.add i).add j = a.add (i + j) := by
  unfold Addr.add
  by_cases hi : i = 0 <;> by_cases hj : j = 0 <;> simp [hi, hj, Nat.add_assoc]
theorem add_lit (g o n : Nat) : (⟨g, o, none⟩ : Addr).add n = ⟨g, o + n, none⟩ := by
  unfold Addr.add; split
  · subst_vars; rfl
  · rfl

theorem lt_of_cell {w : World} {p : Addr} {v : Value} (h : w.cell? p = some v) : p.block < w.heap.size := by
  unfold World.cell? at h
  rcases Nat.lt_or_ge p.block w.heap.size with hlt | hge
  · exact hlt
  · rw [Array.getElem?_eq_none hge] at h; cases h

/-- A block that is known whole, nothing of it frozen. -/
def Blk (w : World) (g : Nat) (t : TypeId) (cs : Array Value) : Prop := w.heap[g]? = some (.cells cs t (0, 0))

section
variable {w w' : World} {g : Nat} {t : TypeId} {cs : Array Value}
theorem Blk.lt (h : Blk w g t cs) : g < w.heap.size := by
  rcases Nat.lt_or_ge g w.heap.size with hlt | hge
  · exact hlt
  · unfold Blk at h; rw [Array.getElem?_eq_none hge] at h; cases h
theorem Blk.cell (h : Blk w g t cs) (i : Nat) : w.cell? ⟨g, i, none⟩ = cs[i]? := cell_of_row w g i cs t (0, 0) h
theorem Blk.frozen (h : Blk w g t cs) (i : Nat) : w.frozen? ⟨g, i, none⟩ = false := by
  unfold Blk at h
  simp [World.frozen?, h]
theorem Blk.new (w : World) (t : TypeId) (cs : Array Value) : Blk (w.alloc (.cells cs t)) w.heap.size t cs := heap_alloc_new w _
theorem Blk.drew (h : Blk w g t cs) : Blk w.drew g t cs := h
theorem Blk.drewN (h : Blk w g t cs) (n : Nat) : Blk (w.drewN n) g t cs := h
theorem Blk.alloc (h : Blk w g t cs) (o : Obj) : Blk (w.alloc o) g t cs := (Below.heap_alloc w o g h.lt).trans h
theorem Blk.set_ (h : Blk w g t cs) (i : Nat) (u : Value) : Blk (w.setCell ⟨g, i, none⟩ u) g t (cs.setIfInBounds i u) := by
  unfold Blk at h ⊢
  simp [World.setCell, Array.getElem?_modify, h]
theorem Blk.far (h : Blk w g t cs) {p : Addr} (hp : g ≠ p.block) (u : Value) : Blk (w.setCell p u) g t cs := (Below.heap_setCell w p u g hp).trans h
theorem Blk.below {B : Nat} (h : Blk w g t cs) (hb : Below B w w') (hg : g < B) : Blk w' g t cs := (hb.block g hg).trans h
end

theorem ret_slice {A : Option Addr} {n n' c : Nat} (h : n = n') : Ending.returned (.slice A n c) = .returned (.slice A n' c) := by rw [h]
theorem ret_int {k : IntKind} {a b : Int} (h : a = b) : Ending.returned (.int k a) = .returned (.int k b) := by rw [h]
theorem ret_bool {a b : Bool} (h : a = b) : Ending.returned (.bool a) = .returned (.bool b) := by rw [h]

/-- A limb, as a value. -/
abbrev limb (x : Nat) : Value := .int .u32 (x : Int)
/-- Limbs, as a block's cells. -/
def cells32 (l : List Nat) : Array Value := (l.map limb).toArray
theorem cells32_get (l : List Nat) (i : Nat) (h : i < l.length) : (cells32 l)[i]? = some (limb (l[i]?.getD 0)) := by
  simp [cells32, List.getElem?_eq_getElem h]
theorem cells32_set (l : List Nat) (i v : Nat) : (cells32 l).setIfInBounds i (limb v) = cells32 (l.set i v) := by
  simp [cells32, List.map_set]

/-- The slice 'A, n of c' holds the limbs l. -/
def Lim (w : World) (A : Option Addr) (n c : Nat) (l : List Nat) : Prop :=
  l.length = n ∧ n ≤ c ∧ c ≤ maxLen ∧ Lt32 l ∧ (0 < n → ∃ b o, A = some ⟨b, o, none⟩ ∧ ∀ k, k < n → w.cell? ⟨b, o + k, none⟩ = some (limb (l[k]?.getD 0)))

section
variable {w w' : World} {A : Option Addr} {n c : Nat} {l : List Nat}
theorem Lim.len (h : Lim w A n c l) : l.length = n := h.1
theorem Lim.lt (h : Lim w A n c l) : Lt32 l := h.2.2.2.1
theorem Lim.nil (w : World) (A : Option Addr) (c : Nat) (hc : c ≤ maxLen) : Lim w A 0 c [] := ⟨rfl, Nat.zero_le _, hc, Lt32.nil, fun h => absurd h (by omega)⟩
theorem Lim.at_ (h : Lim w A n c l) {k : Nat} (hk : k < n) : ∃ b o, A = some ⟨b, o, none⟩ ∧ w.cell? ⟨b, o + k, none⟩ = some (limb (l[k]?.getD 0)) := by
  obtain ⟨b, o, e, hc⟩ := h.2.2.2.2 (by omega)
  exact ⟨b, o, e, hc k hk⟩
theorem Lim.cell {b o : Nat} (h : Lim w (some ⟨b, o, none⟩) n c l) {k : Nat} (hk : k < n) : w.cell? ⟨b, o + k, none⟩ = some (limb (l[k]?.getD 0)) := by
  obtain ⟨b', o', e, hc⟩ := h.at_ hk
  cases e; exact hc
theorem Lim.keep (h : Lim w A n c l) (hk : ∀ p : Addr, p.block < w.heap.size → w'.cell? p = w.cell? p) : Lim w' A n c l :=
  ⟨h.1, h.2.1, h.2.2.1, h.2.2.2.1, fun hn => by
    obtain ⟨b, o, e, hc⟩ := h.2.2.2.2 hn
    exact ⟨b, o, e, fun k hk' => (hk _ (lt_of_cell (hc k hk'))).trans (hc k hk')⟩⟩
theorem Lim.below (h : Lim w A n c l) (hb : Below w.heap.size w w') : Lim w' A n c l := h.keep fun _ hp => hb.cell hp
theorem Lim.drew (h : Lim w A n c l) : Lim w.drew A n c l := h
theorem Lim.drewN (h : Lim w A n c l) (k : Nat) : Lim (w.drewN k) A n c l := h
theorem Lim.alloc (h : Lim w A n c l) (o : Obj) : Lim (w.alloc o) A n c l := h.below ((Below.refl _ _).alloc (Nat.le_refl _) _)
theorem Lim.take (h : Lim w A n c l) {k : Nat} (hk : k ≤ n) : Lim w A k c (l.take k) :=
  ⟨by rw [List.length_take, h.len]; omega, by have := h.2.1; omega, h.2.2.1, h.lt.take k, fun h0 => by
    obtain ⟨b, o, e, hc⟩ := h.2.2.2.2 (by omega)
    refine ⟨b, o, e, fun j hj => ?_⟩
    rw [hc j (by omega), List.getElem?_take, if_pos hj]⟩
theorem Lim.lt_pw (h : Lim w A n c l) : val l < pw n := by have := val_lt h.lt; rw [h.len] at this; exact this
/-- What a block of the call's own holds. -/
theorem Lim.of_blk {g : Nat} {t : TypeId} (h : Blk w g t (cells32 l)) (hl : Lt32 l) (hn : l.length ≤ maxLen) : Lim w (some ⟨g, 0, none⟩) l.length l.length l :=
  ⟨rfl, Nat.le_refl _, hn, hl, fun _ => ⟨_, _, rfl, fun k hk => by rw [Nat.zero_add, h.cell, cells32_get l k hk]⟩⟩
/-- Cut at its last limb that is not 0. -/
theorem Lim.canon (h : Lim w A n c l) : Lim w A (digits (val l)).length c (digits (val l)) ∧ (digits (val l)).length ≤ n := by
  have hle : (digits (val l)).length ≤ n := (length_digits_le _ _).2 h.lt_pw
  have ht := h.take hle
  have : l.take (digits (val l)).length = digits (val l) := by
    have hv : val (l.take (digits (val l)).length) = val l := by
      have h1 := val_take_drop l (digits (val l)).length (by rw [h.len]; exact hle)
      have h2 := lt_pw_digits (val l)
      rcases Nat.eq_zero_or_pos (val (l.drop (digits (val l)).length)) with h0 | h0
      · rw [h0] at h1; omega
      · have := Nat.mul_le_mul_left (pw (digits (val l)).length) h0; omega
    refine val_inj (h.lt.take _) (lt32_digits _) ?_ ?_
    · rw [List.length_take, h.len]; omega
    · rw [hv, val_digits]
  rw [this] at ht
  exact ⟨ht, hle⟩
end

/-- What a call hands back: a slice of limbs of which P holds; nothing that lay has turned. -/
def OutL (w : World) (P : List Nat → Prop) (e : Ending) (w' : World) : Prop :=
  ∃ A n c l, e = .returned (.slice A n c) ∧ Lim w' A n c l ∧ P l ∧ Below w.heap.size w w'

/-- A block made by 'make', and slices over it. -/
theorem make32 {P : Program} (t e : TypeId) {i : TypeInfo} (ht : P.underlying t = some (.slice e)) (hi : P.info? e = some i) (hz : i.zero = some (.int .u32 0)) (hs : i.size = 1) (hb : i.bytes = 4)
    (x : Int) (n : Nat) (hx : x = n) (hn : n ≤ 70368744177664) (W : World) :
    (Instr.makeSlice t (.int .i64 x) (.int .i64 x)).run P W = .ok (.slice (some ⟨W.heap.size, 0, none⟩) n n) (W.alloc (.cells (cells32 (List.replicate n 0)) e)) := by
  subst hx
  have hr := run_make (P := P) W t e i (.int .u32 0) ht hi hz .i64 .i64 n n (by omega) (by omega) (by rw [hb]; omega) (by omega)
  simp only [Int.toNat_natCast] at hr
  rw [hr]
  have : madeCells (Value.int .u32 0).cells (n * i.size) = cells32 (List.replicate n 0) := by
    rw [hs, Nat.mul_one]
    apply Array.toList_inj.1
    rw [show (Value.int .u32 0).cells = #[.int .u32 0] from rfl, toList_madeCells_one]
    simp [cells32]
  rw [this]

/-- A number with a sign. -/
def sg (neg : Bool) (v : Nat) : Int := if neg then -(v : Int) else v

/-- The slice and the sign are the valid form of the whole number z. -/
def Wd (w : World) (neg : Bool) (A : Option Addr) (n c : Nat) (z : Int) : Prop := neg = decide (z < 0) ∧ n ≤ 4096 ∧ Lim w A n c (digits z.natAbs)

/-- What a result (number, error) is for z: its valid form; or 0 and ErrRange where there is none. -/
def ResP (w' : World) (z : Int) (neg : Bool) (A : Option Addr) (n c : Nat) (code : Int) : Prop :=
  (z.natAbs < pw 4096 ∧ code = 0 ∧ Wd w' neg A n c z) ∨ (pw 4096 ≤ z.natAbs ∧ code = 16 ∧ neg = false ∧ A = none ∧ n = 0 ∧ c = 0)

/-- A result (number, error): the valid form of z, or ErrRange where there is none. -/
def ResW (w : World) (z : Int) (e : Ending) (w' : World) : Prop :=
  Below w.heap.size w w' ∧ ∃ neg A n c code, e = .returned (.tuple #[.agg #[.bool neg, .slice A n c], .int .i64 code]) ∧ ResP w' z neg A n c code

section
variable {w w' : World} {neg : Bool} {A : Option Addr} {n c : Nat} {z : Int}
theorem Wd.below (h : Wd w neg A n c z) (hb : Below w.heap.size w w') : Wd w' neg A n c z := ⟨h.1, h.2.1, h.2.2.below hb⟩
theorem Wd.lim (h : Wd w neg A n c z) : Lim w A n c (digits z.natAbs) := h.2.2
theorem Wd.small (h : Wd w neg A n c z) : z.natAbs < pw 4096 := by
  have := h.2.2.len
  exact (length_digits_le _ _).1 (by rw [this]; exact h.2.1)
theorem Wd.zero (w : World) : Wd w false none 0 0 0 := ⟨by simp, by omega, by rw [show digits (Int.natAbs 0) = [] from digits_zero]; exact Lim.nil _ _ _ (Nat.zero_le _)⟩
theorem Wd.sgEq (h : Wd w neg A n c z) : sg neg (val (digits z.natAbs)) = z := by
  rw [h.1, val_digits]; unfold sg; split <;> simp_all <;> omega
theorem sg_natAbs (neg : Bool) (v : Nat) : (sg neg v).natAbs = v := by unfold sg; split <;> simp
theorem sg_neg (neg : Bool) (v : Nat) : decide (sg neg v < 0) = (neg && decide (0 < v)) := by
  unfold sg; cases neg <;> simp
theorem length_digits_pos {v : Nat} : 0 < (digits v).length ↔ 0 < v := by
  constructor
  · intro h; rcases Nat.eq_zero_or_pos v with rfl | h'
    · rw [digits_zero] at h; simp at h
    · exact h'
  · intro h; rcases Nat.eq_zero_or_pos (digits v).length with h' | h'
    · have := (length_digits_le v 0).1 (by omega); rw [pw_zero] at this; omega
    · exact h'
/-- What a slice of limbs and a sign are, cut. -/
theorem Wd.made {l : List Nat} (h : Lim w A n c l) (neg : Bool) (hs : val l < pw 4096) : Wd w (neg && decide (0 < (digits (val l)).length)) A (digits (val l)).length c (sg neg (val l)) := by
  refine ⟨?_, (length_digits_le _ _).2 hs, ?_⟩
  · rw [sg_neg]; congr 1; simp [length_digits_pos]
  · rw [sg_natAbs]; exact h.canon.1
end

/-- What 'carry + x * y + z' is in 64 bits. -/
theorem mulstep {c x y z : Nat} (hc : c < 4294967296) (hx : x < 4294967296) (hy : y < 4294967296) (hz : z < 4294967296) :
    IntKind.u64.wrap ((c : Int) + IntKind.u64.wrap (IntKind.u64.wrap ((x : Int) * y) + z)) = ((c + x * y + z : Nat) : Int) := by
  have h : x * y ≤ 4294967295 * 4294967295 := Nat.mul_le_mul (by omega) (by omega)
  have e : (x : Int) * y = ((x * y : Nat) : Int) := by simp
  rw [e]
  generalize x * y = t at *
  simp only [IntKind.wrap_u64]
  omega
theorem cast_div (t : Nat) : (t : Int) / 4294967296 = ((t / 4294967296 : Nat) : Int) := by omega
theorem cast_mod (t : Nat) : (t : Int) % 4294967296 = ((t % 4294967296 : Nat) : Int) := by omega

/-- What holds of cells and marks below, ready for the walk. -/
theorem bcell {W w1 : World} (hb : Below W.heap.size W w1) : (∀ b o, b < W.heap.size → w1.cell? ⟨b, o, none⟩ = W.cell? ⟨b, o, none⟩) ∧ (∀ b o, b < W.heap.size → w1.frozen? ⟨b, o, none⟩ = W.frozen? ⟨b, o, none⟩) :=
  ⟨fun b o h => hb.cell (p := ⟨b, o, none⟩) h, fun b o h => hb.frozen (p := ⟨b, o, none⟩) h⟩

theorem keep_cell {W w1 : World} {p : Addr} {v : Value} (hb : Below W.heap.size W w1) (h : W.cell? p = some v) : w1.cell? p = some v := (hb.cell (lt_of_cell h)).trans h
theorem keep_frozen {W w1 : World} {p : Addr} {v : Value} (hb : Below W.heap.size W w1) (h : W.cell? p = some v) (hf : W.frozen? p = false) : w1.frozen? p = false := (hb.frozen (lt_of_cell h)).trans hf
end Go.Proofs.Ytljocgdhdilglaa
