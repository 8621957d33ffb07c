/- Slices of int64 (and int) in memory; slices.Max, slices.Min. -/
import Derived.BigQuiet
import Derived.LoopTactic
import Derived.Deep.QuietTactic
import Derived.Test.YtkippclhbkjbmaaChecked
import Derived.Test.YtkippclhbkjbmaaZn01
set_option linter.unusedSimpArgs false
set_option linter.unusedVariables false

namespace Go.Proofs.Ytkippclhbkjbmaa
open Go.RowKit
attribute [local go_sem] add_lit

def I64 (z : Int) : Prop := -9223372036854775808 ≤ z ∧ z ≤ 9223372036854775807

/-- The slice 'A, n of c' holds the int64 numbers l. -/
def LimI (w : World) (A : Option Addr) (n c : Nat) (l : List Int) : Prop :=
  l.length = n ∧ n ≤ c ∧ c ≤ maxLen ∧ (∀ x ∈ l, I64 x) ∧ (0 < n → ∃ b o, A = some ⟨b, o, none⟩ ∧ ∀ k, k < n → w.cell? ⟨b, o + k, none⟩ = some (.int .i64 (l[k]?.getD 0)))

theorem LimI.keep {w w' : World} {A : Option Addr} {n c : Nat} {l : List Int} (h : LimI w A n c l) (hk : ∀ p : Addr, p.block < w.heap.size → w'.cell? p = w.cell? p) : LimI w' A n c l :=
  ⟨h.1, h.2.1, h.2.2.1, h.2.2.2.1, fun hn => by
    obtain ⟨b, o, e, hc⟩ := h.2.2.2.2 hn
    exact ⟨b, o, e, fun k hk' => (hk _ (lt_of_cell (hc k hk'))).trans (hc k hk')⟩⟩
theorem LimI.below {w w' : World} {A : Option Addr} {n c : Nat} {l : List Int} (h : LimI w A n c l) (hb : Below w.heap.size w w') : LimI w' A n c l := h.keep fun _ hp => hb.cell hp

/-- The greatest of the first k. -/
def maxI (l : List Int) : Nat → Int
  | 0 => l[0]?.getD 0
  | k + 1 => max (maxI l k) (l[k]?.getD 0)

set_option maxRecDepth 100000 in
set_option maxHeartbeats 1000000 in
theorem sMax_ok (A : Option Addr) (n c : Nat) (l : List Int) (w : World) (h : LimI w A n c l) (hn : 0 < n) (h9 : n ≤ 1000000000) :
    Calls Try.prog 57 #[.slice A n c] w fun e w' => e = .returned (.int .i64 (maxI l n)) ∧ w' = w := by
  obtain ⟨b, o, rfl, hc⟩ := h.2.2.2.2 hn
  have hc0 := hc 0 hn
  simp only [Nat.add_zero] at hc0
  have hcE : ∀ k, k < n → w.cell? ⟨b, o + k, none⟩ = some (.int .i64 (l[k]?.getD 0)) := hc
  have hm1 : maxI l 1 = l[0]?.getD 0 := by simp [maxI]
  go_enter Try.func57, Try.ntmps57
  have ht : decide ((n : Int) < 1) = false := by simp; omega
  go_wp2_with fail
  go_loop [3, 4] (fun m i => ∃ k : Nat, 1 ≤ k ∧ k ≤ n ∧ i = .int .i64 k ∧ m = .int .i64 (maxI l k)) (fun _ i => n - (intOf i).toNat)
  case atStart => exact ⟨1, by omega, hn, rfl, by rw [hm1]⟩
  case round =>
    obtain ⟨k, h1, h2, rfl, rfl⟩ := hrel
    by_cases hk : k < n
    · have hck := hcE k hk
      have htk : decide ((k : Int) < (n : Int)) = true := by simp; omega
      clear h hc hcE hc0 ht
      go_wp2_with fail
      go_round
      case rel => exact ⟨k + 1, by omega, by omega, by go_num, by simp only [maxI]; congr 1; split <;> omega⟩
      case measure => simp [intOf]; omega
    · obtain rfl : k = n := by omega
      have htk : decide ((k : Int) < (k : Int)) = false := by simp
      clear h hc hcE hc0 ht
      go_wp2_with fail
      go_ret
      exact ⟨rfl, rfl⟩

/-- The least of the first k. -/
def minI (l : List Int) : Nat → Int
  | 0 => l[0]?.getD 0
  | k + 1 => min (minI l k) (l[k]?.getD 0)

set_option maxRecDepth 100000 in
set_option maxHeartbeats 1000000 in
theorem sMin_ok (A : Option Addr) (n c : Nat) (l : List Int) (w : World) (h : LimI w A n c l) (hn : 0 < n) (h9 : n ≤ 1000000000) :
    Calls Try.prog 58 #[.slice A n c] w fun e w' => e = .returned (.int .i64 (minI l n)) ∧ w' = w := by
  obtain ⟨b, o, rfl, hc⟩ := h.2.2.2.2 hn
  have hc0 := hc 0 hn
  simp only [Nat.add_zero] at hc0
  have hcE : ∀ k, k < n → w.cell? ⟨b, o + k, none⟩ = some (.int .i64 (l[k]?.getD 0)) := hc
  have hm1 : minI l 1 = l[0]?.getD 0 := by simp [minI]
  go_enter Try.func58, Try.ntmps58
  have ht : decide ((n : Int) < 1) = false := by simp; omega
  go_wp2_with fail
  go_loop [3, 4] (fun m i => ∃ k : Nat, 1 ≤ k ∧ k ≤ n ∧ i = .int .i64 k ∧ m = .int .i64 (minI l k)) (fun _ i => n - (intOf i).toNat)
  case atStart => exact ⟨1, by omega, hn, rfl, by rw [hm1]⟩
  case round =>
    obtain ⟨k, h1, h2, rfl, rfl⟩ := hrel
    by_cases hk : k < n
    · have hck := hcE k hk
      have htk : decide ((k : Int) < (n : Int)) = true := by simp; omega
      clear h hc hcE hc0 ht
      go_wp2_with fail
      go_round
      case rel => exact ⟨k + 1, by omega, by omega, by go_num, by simp only [minI]; congr 1; split <;> omega⟩
      case measure => simp [intOf]; omega
    · obtain rfl : k = n := by omega
      have htk : decide ((k : Int) < (k : Int)) = false := by simp
      clear h hc hcE hc0 ht
      go_wp2_with fail
      go_ret
      exact ⟨rfl, rfl⟩
end Go.Proofs.Ytkippclhbkjbmaa
