/-
  No cell of these rows narrows 'for every input' (looked for: loops, veiled, ifaces, maps, wideKeys, modest, calm, conditions, laid).
  DERIVED. THE GIVEN ROWS OF THIS SEAT. 6 by the template 'for every input the law returns true; each argument reads behind the call as it read before'; 0 by the template 'total and deterministic' (their statements: YtpehacgjclkhmaaGreatTotals.lean).
  GIVEN WITH THE SEED: the statements are not yours to turn. If you find one false, say at which input.
  Laid BY PROGRAM, IN A SANDBOX (cutbox-rows.mjs): the forced cells as the released guide's own fill.sh prints them over the translation ce70676477a7ef86… (all of the seat's roots in one cut). By AI agents, Wed Nov 11 2026. No macro, syntax, notation, axiom, sorry.
-/
import Derived.Test.YtpehacgjclkhmaaGreatChecked
import GoSem.Claim
import GoSem.ClaimJoined
import GoSem.ClaimMapViews
import Derived.JoinedTies
import Derived.KernelRfl
namespace Go.Proofs.YtpehacgjclkhmaaGreat
/- THE CELL 'sum', in the pinned program and in every row, IS THE sha256 OF THE DUMP (.gsa) THAT YtpehacgjclkhmaaGreatProg.lean LOADS. Nothing in Lean hashes anything: it is a label: what it is worth is what the hold of that sum in a sandbox is worth. -/
noncomputable def Tryz.pinned : Pinned := { name := "ytpehacgjclkhmaagreat", sum := "ce70676477a7ef8658508b1f31fead2002c7e3a254304b815aeb953f5bd71833", checked := Tryz.checked }
namespace Rows
def none {H : Type} : Left H := { results := [], args := [] }

/-- 'planispherelaw37.CovarAsks': WHATEVER THE INPUT: true; the input reads as it did. -/
def covarAsksSpec : ChangeSpec := { name := "covarAsks", fn := fun _ => fun
  | [d1, d2, d3, d4] => { results := [.lit (.bool true)], args := [d1, d2, d3, d4] }
  | _ => none }
def covarAsksRow : OpenClaim := { program := "ytpehacgjclkhmaagreat", sum := "ce70676477a7ef8658508b1f31fead2002c7e3a254304b815aeb953f5bd71833", func := "planisphere/planispherelaw37.CovarAsks", spec := "covarAsks", unfollowed := true, recurses := true, named := ["math/bits.overflowError"], apart := false }
def CovarAsksSaid : Prop := covarAsksRow.holds Tryz.pinned (OpenSpec.ofChange covarAsksSpec)

/-- ITS FALSE NEIGHBOUR: 'it returns false'. Refute it at one input. -/
def covarAsksWrong : ChangeSpec := { name := "covarAsks", fn := fun _ => fun
  | [d1, d2, d3, d4] => { results := [.lit (.bool false)], args := [d1, d2, d3, d4] }
  | _ => none }
def CovarAsksWrongFalsely : Prop := covarAsksRow.holds Tryz.pinned (OpenSpec.ofChange covarAsksWrong)

/-- 'planispherelaw38.LovSteps': WHATEVER THE INPUT: true; the input reads as it did. -/
def lovStepsSpec : ChangeSpec := { name := "lovSteps", fn := fun _ => fun
  | [d1, d2, d3, d4, d5] => { results := [.lit (.bool true)], args := [d1, d2, d3, d4, d5] }
  | _ => none }
def lovStepsRow : OpenClaim := { program := "ytpehacgjclkhmaagreat", sum := "ce70676477a7ef8658508b1f31fead2002c7e3a254304b815aeb953f5bd71833", func := "planisphere/planispherelaw38.LovSteps", spec := "lovSteps", unfollowed := true, recurses := true, named := ["math/bits.overflowError"], apart := false }
def LovStepsSaid : Prop := lovStepsRow.holds Tryz.pinned (OpenSpec.ofChange lovStepsSpec)

/-- ITS FALSE NEIGHBOUR: 'it returns false'. Refute it at one input. -/
def lovStepsWrong : ChangeSpec := { name := "lovSteps", fn := fun _ => fun
  | [d1, d2, d3, d4, d5] => { results := [.lit (.bool false)], args := [d1, d2, d3, d4, d5] }
  | _ => none }
def LovStepsWrongFalsely : Prop := lovStepsRow.holds Tryz.pinned (OpenSpec.ofChange lovStepsWrong)

/-- 'planispherelaw38.LovWeights': WHATEVER THE INPUT: true; the input reads as it did. -/
def lovWeightsSpec : ChangeSpec := { name := "lovWeights", fn := fun _ => fun
  | [d] => { results := [.lit (.bool true)], args := [d] }
  | _ => none }
def lovWeightsRow : OpenClaim := { program := "ytpehacgjclkhmaagreat", sum := "ce70676477a7ef8658508b1f31fead2002c7e3a254304b815aeb953f5bd71833", func := "planisphere/planispherelaw38.LovWeights", spec := "lovWeights", unfollowed := true, recurses := true, named := ["math/bits.overflowError"], apart := false }
def LovWeightsSaid : Prop := lovWeightsRow.holds Tryz.pinned (OpenSpec.ofChange lovWeightsSpec)

/-- ITS FALSE NEIGHBOUR: 'it returns false'. Refute it at one input. -/
def lovWeightsWrong : ChangeSpec := { name := "lovWeights", fn := fun _ => fun
  | [d] => { results := [.lit (.bool false)], args := [d] }
  | _ => none }
def LovWeightsWrongFalsely : Prop := lovWeightsRow.holds Tryz.pinned (OpenSpec.ofChange lovWeightsWrong)

/-- 'planispherelaw38.LovLeast': WHATEVER THE INPUT: true; the input reads as it did. -/
def lovLeastSpec : ChangeSpec := { name := "lovLeast", fn := fun _ => fun
  | [d1, d2, d3] => { results := [.lit (.bool true)], args := [d1, d2, d3] }
  | _ => none }
def lovLeastRow : OpenClaim := { program := "ytpehacgjclkhmaagreat", sum := "ce70676477a7ef8658508b1f31fead2002c7e3a254304b815aeb953f5bd71833", func := "planisphere/planispherelaw38.LovLeast", spec := "lovLeast", unfollowed := true, recurses := true, named := ["math/bits.overflowError"], apart := false }
def LovLeastSaid : Prop := lovLeastRow.holds Tryz.pinned (OpenSpec.ofChange lovLeastSpec)

/-- ITS FALSE NEIGHBOUR: 'it returns false'. Refute it at one input. -/
def lovLeastWrong : ChangeSpec := { name := "lovLeast", fn := fun _ => fun
  | [d1, d2, d3] => { results := [.lit (.bool false)], args := [d1, d2, d3] }
  | _ => none }
def LovLeastWrongFalsely : Prop := lovLeastRow.holds Tryz.pinned (OpenSpec.ofChange lovLeastWrong)

/-- 'planispherelaw38.LovLines': WHATEVER THE INPUT: true; the input reads as it did. -/
def lovLinesSpec : ChangeSpec := { name := "lovLines", fn := fun _ => fun
  | [d1, d2, d3, d4, d5] => { results := [.lit (.bool true)], args := [d1, d2, d3, d4, d5] }
  | _ => none }
def lovLinesRow : OpenClaim := { program := "ytpehacgjclkhmaagreat", sum := "ce70676477a7ef8658508b1f31fead2002c7e3a254304b815aeb953f5bd71833", func := "planisphere/planispherelaw38.LovLines", spec := "lovLines", unfollowed := true, recurses := true, named := ["math/bits.overflowError"], apart := false }
def LovLinesSaid : Prop := lovLinesRow.holds Tryz.pinned (OpenSpec.ofChange lovLinesSpec)

/-- ITS FALSE NEIGHBOUR: 'it returns false'. Refute it at one input. -/
def lovLinesWrong : ChangeSpec := { name := "lovLines", fn := fun _ => fun
  | [d1, d2, d3, d4, d5] => { results := [.lit (.bool false)], args := [d1, d2, d3, d4, d5] }
  | _ => none }
def LovLinesWrongFalsely : Prop := lovLinesRow.holds Tryz.pinned (OpenSpec.ofChange lovLinesWrong)

/-- 'planispherelaw38.LovNames': WHATEVER THE INPUT: true; the input reads as it did. -/
def lovNamesSpec : ChangeSpec := { name := "lovNames", fn := fun _ => fun
  | [] => { results := [.lit (.bool true)], args := [] }
  | _ => none }
def lovNamesRow : OpenClaim := { program := "ytpehacgjclkhmaagreat", sum := "ce70676477a7ef8658508b1f31fead2002c7e3a254304b815aeb953f5bd71833", func := "planisphere/planispherelaw38.LovNames", spec := "lovNames", unfollowed := true, recurses := true, named := ["math/bits.overflowError"], apart := false }
def LovNamesSaid : Prop := lovNamesRow.holds Tryz.pinned (OpenSpec.ofChange lovNamesSpec)

/-- ITS FALSE NEIGHBOUR: 'it returns false'. Refute it at one input. -/
def lovNamesWrong : ChangeSpec := { name := "lovNames", fn := fun _ => fun
  | [] => { results := [.lit (.bool false)], args := [] }
  | _ => none }
def LovNamesWrongFalsely : Prop := lovNamesRow.holds Tryz.pinned (OpenSpec.ofChange lovNamesWrong)

/- THE SECOND FORM. 'bulk': how many values and letters a reading holds, each counted each time it is reached (what is shared counts as often as it is met; a slice's spare places count too). A statement '..UptoSaid' is the law's where the arguments, and the package variables that the reading takes, are together of bulk at most 1048576: NARROWER than '..Said'. Prove '..Said' where nothing that the law and all that it calls make is longer than what came in: it says more and counts as full. Else prove '..UptoSaid'. A law counts once. -/
mutual
def uptoBulk {H : Type} : DataW H → Nat
  | .lit (.string bytes) => bytes.length + 1
  | .lit _ => 1
  | .nil => 1
  | .ptr d => uptoBulk d + 1
  | .slice elems spare => uptoBulkAll elems + uptoBulkAll spare + 1
  | .agg parts => uptoBulkAll parts + 1
  | .iface _ d => uptoBulk d + 1
  | .map entries => uptoBulkEntries entries + 1
  | .held _ => 1
def uptoBulkAll {H : Type} : List (DataW H) → Nat
  | [] => 0
  | d :: r => uptoBulk d + uptoBulkAll r
def uptoBulkEntries {H : Type} : List (Lit × DataW H) → Nat
  | [] => 0
  | x :: r => uptoBulkEntry x + uptoBulkEntries r
def uptoBulkEntry {H : Type} : Lit × DataW H → Nat
  | (.string bytes, d) => bytes.length + uptoBulk d + 1
  | (_, d) => uptoBulk d + 1
 end
def uptoSmall : (H : Type) → List (DataW H) → Bool := fun _ ds => decide (uptoBulkAll ds ≤ 1048576)
def OpenSpec.upto (s : _root_.Go.ChangeSpec) : _root_.Go.OpenSpec := { _root_.Go.OpenSpec.ofChange s with cond := some uptoSmall }

/-- 'planispherelaw37.CovarAsks', WHERE WHAT IT READS IS OF BULK AT MOST 1048576: true; the input reads as it did. -/
def covarAsksUptoRow : OpenClaim := { program := "ytpehacgjclkhmaagreat", sum := "ce70676477a7ef8658508b1f31fead2002c7e3a254304b815aeb953f5bd71833", func := "planisphere/planispherelaw37.CovarAsks", spec := "covarAsks", unfollowed := true, recurses := true, named := ["math/bits.overflowError"], apart := false, narrowed := true }
def CovarAsksUptoSaid : Prop := covarAsksUptoRow.holds Tryz.pinned (OpenSpec.upto covarAsksSpec)

/-- 'planispherelaw38.LovSteps', WHERE WHAT IT READS IS OF BULK AT MOST 1048576: true; the input reads as it did. -/
def lovStepsUptoRow : OpenClaim := { program := "ytpehacgjclkhmaagreat", sum := "ce70676477a7ef8658508b1f31fead2002c7e3a254304b815aeb953f5bd71833", func := "planisphere/planispherelaw38.LovSteps", spec := "lovSteps", unfollowed := true, recurses := true, named := ["math/bits.overflowError"], apart := false, narrowed := true }
def LovStepsUptoSaid : Prop := lovStepsUptoRow.holds Tryz.pinned (OpenSpec.upto lovStepsSpec)

/-- 'planispherelaw38.LovWeights', WHERE WHAT IT READS IS OF BULK AT MOST 1048576: true; the input reads as it did. -/
def lovWeightsUptoRow : OpenClaim := { program := "ytpehacgjclkhmaagreat", sum := "ce70676477a7ef8658508b1f31fead2002c7e3a254304b815aeb953f5bd71833", func := "planisphere/planispherelaw38.LovWeights", spec := "lovWeights", unfollowed := true, recurses := true, named := ["math/bits.overflowError"], apart := false, narrowed := true }
def LovWeightsUptoSaid : Prop := lovWeightsUptoRow.holds Tryz.pinned (OpenSpec.upto lovWeightsSpec)

/-- 'planispherelaw38.LovLeast', WHERE WHAT IT READS IS OF BULK AT MOST 1048576: true; the input reads as it did. -/
def lovLeastUptoRow : OpenClaim := { program := "ytpehacgjclkhmaagreat", sum := "ce70676477a7ef8658508b1f31fead2002c7e3a254304b815aeb953f5bd71833", func := "planisphere/planispherelaw38.LovLeast", spec := "lovLeast", unfollowed := true, recurses := true, named := ["math/bits.overflowError"], apart := false, narrowed := true }
def LovLeastUptoSaid : Prop := lovLeastUptoRow.holds Tryz.pinned (OpenSpec.upto lovLeastSpec)

/-- 'planispherelaw38.LovLines', WHERE WHAT IT READS IS OF BULK AT MOST 1048576: true; the input reads as it did. -/
def lovLinesUptoRow : OpenClaim := { program := "ytpehacgjclkhmaagreat", sum := "ce70676477a7ef8658508b1f31fead2002c7e3a254304b815aeb953f5bd71833", func := "planisphere/planispherelaw38.LovLines", spec := "lovLines", unfollowed := true, recurses := true, named := ["math/bits.overflowError"], apart := false, narrowed := true }
def LovLinesUptoSaid : Prop := lovLinesUptoRow.holds Tryz.pinned (OpenSpec.upto lovLinesSpec)

/-- 'planispherelaw38.LovNames', WHERE WHAT IT READS IS OF BULK AT MOST 1048576: true; the input reads as it did. -/
def lovNamesUptoRow : OpenClaim := { program := "ytpehacgjclkhmaagreat", sum := "ce70676477a7ef8658508b1f31fead2002c7e3a254304b815aeb953f5bd71833", func := "planisphere/planispherelaw38.LovNames", spec := "lovNames", unfollowed := true, recurses := true, named := ["math/bits.overflowError"], apart := false, narrowed := true }
def LovNamesUptoSaid : Prop := lovNamesUptoRow.holds Tryz.pinned (OpenSpec.upto lovNamesSpec)

end Rows
end Go.Proofs.YtpehacgjclkhmaaGreat
