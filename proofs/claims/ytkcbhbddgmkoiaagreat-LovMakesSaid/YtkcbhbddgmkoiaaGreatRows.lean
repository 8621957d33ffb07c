/-
  No cell of these rows narrows 'for every input' (looked for: loops, veiled, ifaces, maps, wideKeys, modest, calm, conditions, laid).
  DERIVED. THE GIVEN ROWS OF THIS SEAT. 4 by the template 'for every input the law returns true; each argument reads behind the call as it read before'; 0 by the template 'total and deterministic' (their statements: YtkcbhbddgmkoiaaGreatTotals.lean).
  GIVEN WITH THE SEED: the statements are not yours to turn. If you find one false, say at which input.
  Laid BY PROGRAM, IN A SANDBOX (cutbox-rows.mjs): the forced cells as the released guide's own fill.sh prints them over the translation b740cc0035b00fe2… (all of the seat's roots in one cut). By AI agents, Wed Nov 11 2026. No macro, syntax, notation, axiom, sorry.
-/
import Derived.Test.YtkcbhbddgmkoiaaGreatChecked
import GoSem.Claim
import GoSem.ClaimJoined
import GoSem.ClaimMapViews
import Derived.JoinedTies
import Derived.KernelRfl
namespace Go.Proofs.YtkcbhbddgmkoiaaGreat
/- THE CELL 'sum', in the pinned program and in every row, IS THE sha256 OF THE DUMP (.gsa) THAT YtkcbhbddgmkoiaaGreatProg.lean LOADS. Nothing in Lean hashes anything: it is a label: what it is worth is what the hold of that sum in a sandbox is worth. -/
noncomputable def Tryz.pinned : Pinned := { name := "ytkcbhbddgmkoiaagreat", sum := "b740cc0035b00fe2183e9e54e54974503870697b7e2353c67003d5d3cedf158a", checked := Tryz.checked }
namespace Rows
def none {H : Type} : Left H := { results := [], args := [] }

/-- 'planispherelaw37.CovarParts': WHATEVER THE INPUT: true; the input reads as it did. -/
def covarPartsSpec : ChangeSpec := { name := "covarParts", fn := fun _ => fun
  | [d1, d2, d3] => { results := [.lit (.bool true)], args := [d1, d2, d3] }
  | _ => none }
def covarPartsRow : OpenClaim := { program := "ytkcbhbddgmkoiaagreat", sum := "b740cc0035b00fe2183e9e54e54974503870697b7e2353c67003d5d3cedf158a", func := "planisphere/planispherelaw37.CovarParts", spec := "covarParts", unfollowed := true, recurses := true, named := ["math/bits.overflowError"], apart := false }
def CovarPartsSaid : Prop := covarPartsRow.holds Tryz.pinned (OpenSpec.ofChange covarPartsSpec)

/-- ITS FALSE NEIGHBOUR: 'it returns false'. Refute it at one input. -/
def covarPartsWrong : ChangeSpec := { name := "covarParts", fn := fun _ => fun
  | [d1, d2, d3] => { results := [.lit (.bool false)], args := [d1, d2, d3] }
  | _ => none }
def CovarPartsWrongFalsely : Prop := covarPartsRow.holds Tryz.pinned (OpenSpec.ofChange covarPartsWrong)

/-- 'planispherelaw38.LovMakes': WHATEVER THE INPUT: true; the input reads as it did. -/
def lovMakesSpec : ChangeSpec := { name := "lovMakes", fn := fun _ => fun
  | [d1, d2, d3, d4] => { results := [.lit (.bool true)], args := [d1, d2, d3, d4] }
  | _ => none }
def lovMakesRow : OpenClaim := { program := "ytkcbhbddgmkoiaagreat", sum := "b740cc0035b00fe2183e9e54e54974503870697b7e2353c67003d5d3cedf158a", func := "planisphere/planispherelaw38.LovMakes", spec := "lovMakes", unfollowed := true, recurses := true, named := ["math/bits.overflowError"], apart := false }
def LovMakesSaid : Prop := lovMakesRow.holds Tryz.pinned (OpenSpec.ofChange lovMakesSpec)

/-- ITS FALSE NEIGHBOUR: 'it returns false'. Refute it at one input. -/
def lovMakesWrong : ChangeSpec := { name := "lovMakes", fn := fun _ => fun
  | [d1, d2, d3, d4] => { results := [.lit (.bool false)], args := [d1, d2, d3, d4] }
  | _ => none }
def LovMakesWrongFalsely : Prop := lovMakesRow.holds Tryz.pinned (OpenSpec.ofChange lovMakesWrong)

/-- 'planispherelaw38.LovSteps': WHATEVER THE INPUT: true; the input reads as it did. -/
def lovStepsSpec : ChangeSpec := { name := "lovSteps", fn := fun _ => fun
  | [d1, d2, d3, d4, d5] => { results := [.lit (.bool true)], args := [d1, d2, d3, d4, d5] }
  | _ => none }
def lovStepsRow : OpenClaim := { program := "ytkcbhbddgmkoiaagreat", sum := "b740cc0035b00fe2183e9e54e54974503870697b7e2353c67003d5d3cedf158a", func := "planisphere/planispherelaw38.LovSteps", spec := "lovSteps", unfollowed := true, recurses := true, named := ["math/bits.overflowError"], apart := false }
def LovStepsSaid : Prop := lovStepsRow.holds Tryz.pinned (OpenSpec.ofChange lovStepsSpec)

/-- ITS FALSE NEIGHBOUR: 'it returns false'. Refute it at one input. -/
def lovStepsWrong : ChangeSpec := { name := "lovSteps", fn := fun _ => fun
  | [d1, d2, d3, d4, d5] => { results := [.lit (.bool false)], args := [d1, d2, d3, d4, d5] }
  | _ => none }
def LovStepsWrongFalsely : Prop := lovStepsRow.holds Tryz.pinned (OpenSpec.ofChange lovStepsWrong)

/-- 'planispherelaw38.LovWeights': WHATEVER THE INPUT: true; the input reads as it did. -/
def lovWeightsSpec : ChangeSpec := { name := "lovWeights", fn := fun _ => fun
  | [d] => { results := [.lit (.bool true)], args := [d] }
  | _ => none }
def lovWeightsRow : OpenClaim := { program := "ytkcbhbddgmkoiaagreat", sum := "b740cc0035b00fe2183e9e54e54974503870697b7e2353c67003d5d3cedf158a", func := "planisphere/planispherelaw38.LovWeights", spec := "lovWeights", unfollowed := true, recurses := true, named := ["math/bits.overflowError"], apart := false }
def LovWeightsSaid : Prop := lovWeightsRow.holds Tryz.pinned (OpenSpec.ofChange lovWeightsSpec)

/-- ITS FALSE NEIGHBOUR: 'it returns false'. Refute it at one input. -/
def lovWeightsWrong : ChangeSpec := { name := "lovWeights", fn := fun _ => fun
  | [d] => { results := [.lit (.bool false)], args := [d] }
  | _ => none }
def LovWeightsWrongFalsely : Prop := lovWeightsRow.holds Tryz.pinned (OpenSpec.ofChange lovWeightsWrong)

/- THE SECOND FORM. 'bulk': how many values and letters a reading holds, each counted each time it is reached (what is shared counts as often as it is met; a slice's spare places count too). A statement '..UptoSaid' is the law's where the arguments, and the package variables that the reading takes, are together of bulk at most 1048576: NARROWER than '..Said'. Prove '..Said' where nothing that the law and all that it calls make is longer than what came in: it says more and counts as full. Else prove '..UptoSaid'. A law counts once. -/
mutual
def uptoBulk {H : Type} : DataW H → Nat
  | .lit (.string bytes) => bytes.length + 1
  | .lit _ => 1
  | .nil => 1
  | .ptr d => uptoBulk d + 1
  | .slice elems spare => uptoBulkAll elems + uptoBulkAll spare + 1
  | .agg parts => uptoBulkAll parts + 1
  | .iface _ d => uptoBulk d + 1
  | .map entries => uptoBulkEntries entries + 1
  | .held _ => 1
def uptoBulkAll {H : Type} : List (DataW H) → Nat
  | [] => 0
  | d :: r => uptoBulk d + uptoBulkAll r
def uptoBulkEntries {H : Type} : List (Lit × DataW H) → Nat
  | [] => 0
  | x :: r => uptoBulkEntry x + uptoBulkEntries r
def uptoBulkEntry {H : Type} : Lit × DataW H → Nat
  | (.string bytes, d) => bytes.length + uptoBulk d + 1
  | (_, d) => uptoBulk d + 1
 end
def uptoSmall : (H : Type) → List (DataW H) → Bool := fun _ ds => decide (uptoBulkAll ds ≤ 1048576)
def OpenSpec.upto (s : _root_.Go.ChangeSpec) : _root_.Go.OpenSpec := { _root_.Go.OpenSpec.ofChange s with cond := some uptoSmall }

/-- 'planispherelaw37.CovarParts', WHERE WHAT IT READS IS OF BULK AT MOST 1048576: true; the input reads as it did. -/
def covarPartsUptoRow : OpenClaim := { program := "ytkcbhbddgmkoiaagreat", sum := "b740cc0035b00fe2183e9e54e54974503870697b7e2353c67003d5d3cedf158a", func := "planisphere/planispherelaw37.CovarParts", spec := "covarParts", unfollowed := true, recurses := true, named := ["math/bits.overflowError"], apart := false, narrowed := true }
def CovarPartsUptoSaid : Prop := covarPartsUptoRow.holds Tryz.pinned (OpenSpec.upto covarPartsSpec)

/-- 'planispherelaw38.LovMakes', WHERE WHAT IT READS IS OF BULK AT MOST 1048576: true; the input reads as it did. -/
def lovMakesUptoRow : OpenClaim := { program := "ytkcbhbddgmkoiaagreat", sum := "b740cc0035b00fe2183e9e54e54974503870697b7e2353c67003d5d3cedf158a", func := "planisphere/planispherelaw38.LovMakes", spec := "lovMakes", unfollowed := true, recurses := true, named := ["math/bits.overflowError"], apart := false, narrowed := true }
def LovMakesUptoSaid : Prop := lovMakesUptoRow.holds Tryz.pinned (OpenSpec.upto lovMakesSpec)

/-- 'planispherelaw38.LovSteps', WHERE WHAT IT READS IS OF BULK AT MOST 1048576: true; the input reads as it did. -/
def lovStepsUptoRow : OpenClaim := { program := "ytkcbhbddgmkoiaagreat", sum := "b740cc0035b00fe2183e9e54e54974503870697b7e2353c67003d5d3cedf158a", func := "planisphere/planispherelaw38.LovSteps", spec := "lovSteps", unfollowed := true, recurses := true, named := ["math/bits.overflowError"], apart := false, narrowed := true }
def LovStepsUptoSaid : Prop := lovStepsUptoRow.holds Tryz.pinned (OpenSpec.upto lovStepsSpec)

/-- 'planispherelaw38.LovWeights', WHERE WHAT IT READS IS OF BULK AT MOST 1048576: true; the input reads as it did. -/
def lovWeightsUptoRow : OpenClaim := { program := "ytkcbhbddgmkoiaagreat", sum := "b740cc0035b00fe2183e9e54e54974503870697b7e2353c67003d5d3cedf158a", func := "planisphere/planispherelaw38.LovWeights", spec := "lovWeights", unfollowed := true, recurses := true, named := ["math/bits.overflowError"], apart := false, narrowed := true }
def LovWeightsUptoSaid : Prop := lovWeightsUptoRow.holds Tryz.pinned (OpenSpec.upto lovWeightsSpec)

end Rows
end Go.Proofs.YtkcbhbddgmkoiaaGreat
