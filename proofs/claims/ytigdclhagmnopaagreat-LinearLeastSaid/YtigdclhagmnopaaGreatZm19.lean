/- Raw fractions: package frac's Check. Rows and matrices of -/
import Derived.Test.YtigdclhagmnopaaGreatZm18
set_option linter.unusedSimpArgs false
set_option linter.unusedVariables false
namespace Go.Proofs.YtigdclhagmnopaaGreat
open Go.RowKit
attribute [local go_sem] Zh
structure FX where
 na : Bool
 A : Option Addr
 n : Nat
 c : Nat
 la : List Nat
 nb : Bool
 B : Option Addr
 m : Nat
 d : Nat
 lb : List Nat
def At4 (w : World) (g o : Nat) (na : Bool) (A : Option Addr) (n c : Nat) (nb : Bool) (B : Option Addr) (m d : Nat) : Prop :=
 w.cell? ⟨g, o, none⟩ = some (.bool na) /\ w.cell? ⟨g, o + 1, none⟩ = some (.slice A n c) /\ w.cell? ⟨g, o + 2, none⟩ = some (.bool nb) /\ w.cell? ⟨g, o + 3, none⟩ = some (.slice B m d)
theorem At4.below {w w' : World} {g o : Nat} {na : Bool} {A : Option Addr} {n c : Nat} {nb : Bool} {B : Option Addr} {m d : Nat} (h : At4 w g o na A n c nb B m d) (hb : Below w.heap.size w w') : At4 w' g o na A n c nb B m d :=
 ⟨Zb hb h.1, Zb hb h.2.1, Zb hb h.2.2.1, Zb hb h.2.2.2⟩
section
variable {w w' : World} {A : Option Addr} {n c : Nat} {es : List FX}
end
structure RX where
 A : Option Addr
 n : Nat
 c : Nat
 es : List FX
def MFL (w : World) (A : Option Addr) (n c : Nat) (Q : List (List Rat)) : Prop :=
 Q.length = n /\ n <= c /\ c <= maxLen /\ (0 < n -> ∃ g o, A = some ⟨g, o, none⟩ /\ ∀ (k : Nat) (q : List Rat), Q[k]? = some q -> ∃ A' n' c', w.cell? ⟨g, o + k, none⟩ = some (.slice A' n' c') /\ FL w A' n' c' q)
section
variable {w w' : World} {A : Option Addr} {n c : Nat} {rs : List RX} {Q : List (List Rat)} {qs : List Rat}
theorem MFL.below (h : MFL w A n c Q) (hb : Below w.heap.size w w') : MFL w' A n c Q := by
 obtain ⟨h1, h2, h3, h5⟩ := h
 refine ⟨h1, h2, h3, fun hn => ?_⟩
 obtain ⟨g, o, e1, hc⟩ := h5 hn
 refine ⟨g, o, e1, fun k q hq => ?_⟩
 obtain ⟨A', n', c', h6, h7⟩ := hc k q hq
 exact ⟨A', n', c', Zb hb h6, h7.below hb⟩
theorem MFL.at_ (h : MFL w A n c Q) {k : Nat} (hk : k < n) : ∃ g o A' n' c', A = some ⟨g, o, none⟩ /\ w.cell? ⟨g, o + k, none⟩ = some (.slice A' n' c') /\ FL w A' n' c' (Q[k]?.getD []) := by
 obtain ⟨h1, -, -, h5⟩ := h
 obtain ⟨g, o, e1, hc⟩ := h5 (by omega)
 have he := List.getElem?_eq_getElem (l := Q) (i := k) (by omega)
 obtain ⟨A', n', c', h6, h7⟩ := hc k _ he
 rw [he]
 exact ⟨g, o, A', n', c', e1, h6, h7⟩
theorem FL.len (h : FL w A n c qs) : qs.length = n := by obtain ⟨es, h1, -, -, -, h5, -⟩ := h; rw [<- h5, List.length_map, h1]
theorem FL.cap (h : FL w A n c qs) : n <= c /\ c <= maxLen := by obtain ⟨es, h1, h2, h3, -⟩ := h; exact ⟨h2, h3⟩
theorem FL.at_ (h : FL w A n c qs) {k : Nat} (hk : k < n) : ∃ g o na A1 n1 c1 nb B m d, A = some ⟨g, o, none⟩ /\ At4 w g (o + k * 4) na A1 n1 c1 nb B m d /\ Fr w na A1 n1 c1 nb B m d (qs[k]?.getD 0) := by
 obtain ⟨es, h1, -, -, h4, rfl, h5⟩ := h
 obtain ⟨g, o, e1, hc⟩ := h5 (by omega)
 have he := List.getElem?_eq_getElem (l := es) (i := k) (by omega)
 refine ⟨g, o, es[k].na, es[k].A, es[k].n, es[k].c, es[k].nb, es[k].B, es[k].m, es[k].d, e1, hc k _ he, ?_⟩
 rw [List.getElem?_map, he]
 exact h4 es[k] (List.getElem_mem _)
theorem FL.take (h : FL w A n c qs) {k : Nat} (hk : k <= n) : FL w A k c (qs.take k) := by
 obtain ⟨es, h1, h2, h3, h4, rfl, h5⟩ := h
 refine ⟨es.take k, by rw [List.length_take]; omega, by omega, h3, fun e he => h4 e (List.mem_of_mem_take he), by rw [List.map_take], fun hn => ?_⟩
 obtain ⟨g, o, e1, hc⟩ := h5 (by omega)
 refine ⟨g, o, e1, fun j e he => ?_⟩
 rw [List.getElem?_take] at he
 split at he
 ·exact hc j e he
 ·cases he
end
end Go.Proofs.YtigdclhagmnopaaGreat
