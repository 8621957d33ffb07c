/- Solving a triangular system; the reference's solved. -/
import Derived.Test.YtigdclhagmnopaaGreatZp33
set_option linter.unusedSimpArgs false
set_option linter.unusedVariables false
namespace Go.Proofs.YtigdclhagmnopaaGreat
open Go.RowKit
attribute [local go_sem] Zh
theorem FL.drop {w : World} {A : Option Addr} {n c : Nat} {qs : List Rat} (h : FL w A n c qs) {g o : Nat} (hA : A = some ⟨g,o,none⟩) {k : Nat} (hk : k <= n) : FL w (some ⟨g,o + k * 4,none⟩) (n - k) (c - k) (qs.drop k):=by
 obtain ⟨es,h1,h2,h3,h4,rfl,h5⟩:=h;refine ⟨es.drop k,by rw [List.length_drop];omega,by omega,by omega,fun e he=>h4 e (List.mem_of_mem_drop he),by rw [List.map_drop],fun hn=>?_⟩;obtain ⟨g',o',e1,hc⟩:=h5 (by omega);rw [hA] at e1
 obtain ⟨rfl,rfl⟩ : g = g' /\ o = o':=by cases e1;exact ⟨rfl,rfl⟩
 refine ⟨g,o + k * 4,rfl,fun j e he=>?_⟩;rw [List.getElem?_drop] at he;have:=hc (k + j) e he;simp only [Nat.add_assoc] at this ⊢;rw [show (k + j) * 4 = k * 4 + j * 4 by omega] at this;simp only [Nat.add_assoc] at this;exact this
theorem Zal (a : Bool) (A : Option Addr) (n c : Nat) (b : Bool) (B : Option Addr) (m d : Nat) : NoLimb #[.bool a,.slice A n c,.bool b,.slice B m d]:=fun i x=>by
 match i with
 | 0=>simp
 | 1=>simp
 | 2=>simp
 | 3=>simp
 | i + 4=>simp
end Go.Proofs.YtigdclhagmnopaaGreat
