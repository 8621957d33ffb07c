/-
  No cell of these rows narrows 'for every input' (looked for: loops, veiled, ifaces, maps, wideKeys, modest, calm, conditions, laid).
  DERIVED. THE GIVEN ROWS OF THIS SEAT. 7 by the template 'for every input the law returns true; each argument reads behind the call as it read before'; 0 by the template 'total and deterministic' (their statements: YtigdclhagmnopaaGreatTotals.lean).
  GIVEN WITH THE SEED: the statements are not yours to turn. If you find one false, say at which input.
  Laid BY PROGRAM, IN A SANDBOX (cutbox-rows.mjs): the forced cells as the released guide's own fill.sh prints them over the translation 6c654b34f2e8f8fb… (all of the seat's roots in one cut). By AI agents, Wed Nov 11 2026. No macro, syntax, notation, axiom, sorry.
-/
import Derived.Test.YtigdclhagmnopaaGreatChecked
import GoSem.Claim
import GoSem.ClaimJoined
import GoSem.ClaimMapViews
import Derived.JoinedTies
import Derived.KernelRfl
namespace Go.Proofs.YtigdclhagmnopaaGreat
/- THE CELL 'sum', in the pinned program and in every row, IS THE sha256 OF THE DUMP (.gsa) THAT YtigdclhagmnopaaGreatProg.lean LOADS. Nothing in Lean hashes anything: it is a label: what it is worth is what the hold of that sum in a sandbox is worth. -/
noncomputable def Tryz.pinned : Pinned := { name := "ytigdclhagmnopaagreat", sum := "6c654b34f2e8f8fb0139069fec50b2dcd2de2fc97f5a0030cd7bb922bfb51737", checked := Tryz.checked }
namespace Rows
def none {H : Type} : Left H := { results := [], args := [] }

/-- 'planispherelaw06.LinearAsks': WHATEVER THE INPUT: true; the input reads as it did. -/
def linearAsksSpec : ChangeSpec := { name := "linearAsks", fn := fun _ => fun
  | [d] => { results := [.lit (.bool true)], args := [d] }
  | _ => none }
def linearAsksRow : OpenClaim := { program := "ytigdclhagmnopaagreat", sum := "6c654b34f2e8f8fb0139069fec50b2dcd2de2fc97f5a0030cd7bb922bfb51737", func := "planisphere/planispherelaw06.LinearAsks", spec := "linearAsks", unfollowed := true, recurses := true, named := ["math/bits.overflowError"], apart := false }
def LinearAsksSaid : Prop := linearAsksRow.holds Tryz.pinned (OpenSpec.ofChange linearAsksSpec)

/-- ITS FALSE NEIGHBOUR: 'it returns false'. Refute it at one input. -/
def linearAsksWrong : ChangeSpec := { name := "linearAsks", fn := fun _ => fun
  | [d] => { results := [.lit (.bool false)], args := [d] }
  | _ => none }
def LinearAsksWrongFalsely : Prop := linearAsksRow.holds Tryz.pinned (OpenSpec.ofChange linearAsksWrong)

/-- 'planispherelaw06.LinearLeast': WHATEVER THE INPUT: true; the input reads as it did. -/
def linearLeastSpec : ChangeSpec := { name := "linearLeast", fn := fun _ => fun
  | [d1, d2, d3] => { results := [.lit (.bool true)], args := [d1, d2, d3] }
  | _ => none }
def linearLeastRow : OpenClaim := { program := "ytigdclhagmnopaagreat", sum := "6c654b34f2e8f8fb0139069fec50b2dcd2de2fc97f5a0030cd7bb922bfb51737", func := "planisphere/planispherelaw06.LinearLeast", spec := "linearLeast", unfollowed := true, recurses := true, named := ["math/bits.overflowError"], apart := false }
def LinearLeastSaid : Prop := linearLeastRow.holds Tryz.pinned (OpenSpec.ofChange linearLeastSpec)

/-- ITS FALSE NEIGHBOUR: 'it returns false'. Refute it at one input. -/
def linearLeastWrong : ChangeSpec := { name := "linearLeast", fn := fun _ => fun
  | [d1, d2, d3] => { results := [.lit (.bool false)], args := [d1, d2, d3] }
  | _ => none }
def LinearLeastWrongFalsely : Prop := linearLeastRow.holds Tryz.pinned (OpenSpec.ofChange linearLeastWrong)

/-- 'planispherelaw06.LinearSolves': WHATEVER THE INPUT: true; the input reads as it did. -/
def linearSolvesSpec : ChangeSpec := { name := "linearSolves", fn := fun _ => fun
  | [d1, d2] => { results := [.lit (.bool true)], args := [d1, d2] }
  | _ => none }
def linearSolvesRow : OpenClaim := { program := "ytigdclhagmnopaagreat", sum := "6c654b34f2e8f8fb0139069fec50b2dcd2de2fc97f5a0030cd7bb922bfb51737", func := "planisphere/planispherelaw06.LinearSolves", spec := "linearSolves", unfollowed := true, recurses := true, named := ["math/bits.overflowError"], apart := false }
def LinearSolvesSaid : Prop := linearSolvesRow.holds Tryz.pinned (OpenSpec.ofChange linearSolvesSpec)

/-- ITS FALSE NEIGHBOUR: 'it returns false'. Refute it at one input. -/
def linearSolvesWrong : ChangeSpec := { name := "linearSolves", fn := fun _ => fun
  | [d1, d2] => { results := [.lit (.bool false)], args := [d1, d2] }
  | _ => none }
def LinearSolvesWrongFalsely : Prop := linearSolvesRow.holds Tryz.pinned (OpenSpec.ofChange linearSolvesWrong)

/-- 'planispherelaw06.LinearDet': WHATEVER THE INPUT: true; the input reads as it did. -/
def linearDetSpec : ChangeSpec := { name := "linearDet", fn := fun _ => fun
  | [d1, d2, d3, d4] => { results := [.lit (.bool true)], args := [d1, d2, d3, d4] }
  | _ => none }
def linearDetRow : OpenClaim := { program := "ytigdclhagmnopaagreat", sum := "6c654b34f2e8f8fb0139069fec50b2dcd2de2fc97f5a0030cd7bb922bfb51737", func := "planisphere/planispherelaw06.LinearDet", spec := "linearDet", unfollowed := true, recurses := true, named := ["math/bits.overflowError"], apart := false }
def LinearDetSaid : Prop := linearDetRow.holds Tryz.pinned (OpenSpec.ofChange linearDetSpec)

/-- ITS FALSE NEIGHBOUR: 'it returns false'. Refute it at one input. -/
def linearDetWrong : ChangeSpec := { name := "linearDet", fn := fun _ => fun
  | [d1, d2, d3, d4] => { results := [.lit (.bool false)], args := [d1, d2, d3, d4] }
  | _ => none }
def LinearDetWrongFalsely : Prop := linearDetRow.holds Tryz.pinned (OpenSpec.ofChange linearDetWrong)

/-- 'planispherelaw06.LinearTrue': WHATEVER THE INPUT: true; the input reads as it did. -/
def linearTrueSpec : ChangeSpec := { name := "linearTrue", fn := fun _ => fun
  | [d1, d2] => { results := [.lit (.bool true)], args := [d1, d2] }
  | _ => none }
def linearTrueRow : OpenClaim := { program := "ytigdclhagmnopaagreat", sum := "6c654b34f2e8f8fb0139069fec50b2dcd2de2fc97f5a0030cd7bb922bfb51737", func := "planisphere/planispherelaw06.LinearTrue", spec := "linearTrue", unfollowed := true, recurses := true, named := ["math/bits.overflowError"], apart := false }
def LinearTrueSaid : Prop := linearTrueRow.holds Tryz.pinned (OpenSpec.ofChange linearTrueSpec)

/-- ITS FALSE NEIGHBOUR: 'it returns false'. Refute it at one input. -/
def linearTrueWrong : ChangeSpec := { name := "linearTrue", fn := fun _ => fun
  | [d1, d2] => { results := [.lit (.bool false)], args := [d1, d2] }
  | _ => none }
def LinearTrueWrongFalsely : Prop := linearTrueRow.holds Tryz.pinned (OpenSpec.ofChange linearTrueWrong)

/-- 'planispherelaw06.LinearBest': WHATEVER THE INPUT: true; the input reads as it did. -/
def linearBestSpec : ChangeSpec := { name := "linearBest", fn := fun _ => fun
  | [d1, d2, d3, d4] => { results := [.lit (.bool true)], args := [d1, d2, d3, d4] }
  | _ => none }
def linearBestRow : OpenClaim := { program := "ytigdclhagmnopaagreat", sum := "6c654b34f2e8f8fb0139069fec50b2dcd2de2fc97f5a0030cd7bb922bfb51737", func := "planisphere/planispherelaw06.LinearBest", spec := "linearBest", unfollowed := true, recurses := true, named := ["math/bits.overflowError"], apart := false }
def LinearBestSaid : Prop := linearBestRow.holds Tryz.pinned (OpenSpec.ofChange linearBestSpec)

/-- ITS FALSE NEIGHBOUR: 'it returns false'. Refute it at one input. -/
def linearBestWrong : ChangeSpec := { name := "linearBest", fn := fun _ => fun
  | [d1, d2, d3, d4] => { results := [.lit (.bool false)], args := [d1, d2, d3, d4] }
  | _ => none }
def LinearBestWrongFalsely : Prop := linearBestRow.holds Tryz.pinned (OpenSpec.ofChange linearBestWrong)

/-- 'planispherelaw06.LinearNames': WHATEVER THE INPUT: true; the input reads as it did. -/
def linearNamesSpec : ChangeSpec := { name := "linearNames", fn := fun _ => fun
  | [] => { results := [.lit (.bool true)], args := [] }
  | _ => none }
def linearNamesRow : OpenClaim := { program := "ytigdclhagmnopaagreat", sum := "6c654b34f2e8f8fb0139069fec50b2dcd2de2fc97f5a0030cd7bb922bfb51737", func := "planisphere/planispherelaw06.LinearNames", spec := "linearNames", unfollowed := true, recurses := true, named := ["math/bits.overflowError"], apart := false }
def LinearNamesSaid : Prop := linearNamesRow.holds Tryz.pinned (OpenSpec.ofChange linearNamesSpec)

/-- ITS FALSE NEIGHBOUR: 'it returns false'. Refute it at one input. -/
def linearNamesWrong : ChangeSpec := { name := "linearNames", fn := fun _ => fun
  | [] => { results := [.lit (.bool false)], args := [] }
  | _ => none }
def LinearNamesWrongFalsely : Prop := linearNamesRow.holds Tryz.pinned (OpenSpec.ofChange linearNamesWrong)

/- THE SECOND FORM. 'bulk': how many values and letters a reading holds, each counted each time it is reached (what is shared counts as often as it is met; a slice's spare places count too). A statement '..UptoSaid' is the law's where the arguments, and the package variables that the reading takes, are together of bulk at most 1048576: NARROWER than '..Said'. Prove '..Said' where nothing that the law and all that it calls make is longer than what came in: it says more and counts as full. Else prove '..UptoSaid'. A law counts once. -/
mutual
def uptoBulk {H : Type} : DataW H → Nat
  | .lit (.string bytes) => bytes.length + 1
  | .lit _ => 1
  | .nil => 1
  | .ptr d => uptoBulk d + 1
  | .slice elems spare => uptoBulkAll elems + uptoBulkAll spare + 1
  | .agg parts => uptoBulkAll parts + 1
  | .iface _ d => uptoBulk d + 1
  | .map entries => uptoBulkEntries entries + 1
  | .held _ => 1
def uptoBulkAll {H : Type} : List (DataW H) → Nat
  | [] => 0
  | d :: r => uptoBulk d + uptoBulkAll r
def uptoBulkEntries {H : Type} : List (Lit × DataW H) → Nat
  | [] => 0
  | x :: r => uptoBulkEntry x + uptoBulkEntries r
def uptoBulkEntry {H : Type} : Lit × DataW H → Nat
  | (.string bytes, d) => bytes.length + uptoBulk d + 1
  | (_, d) => uptoBulk d + 1
 end
def uptoSmall : (H : Type) → List (DataW H) → Bool := fun _ ds => decide (uptoBulkAll ds ≤ 1048576)
def OpenSpec.upto (s : _root_.Go.ChangeSpec) : _root_.Go.OpenSpec := { _root_.Go.OpenSpec.ofChange s with cond := some uptoSmall }

/-- 'planispherelaw06.LinearAsks', WHERE WHAT IT READS IS OF BULK AT MOST 1048576: true; the input reads as it did. -/
def linearAsksUptoRow : OpenClaim := { program := "ytigdclhagmnopaagreat", sum := "6c654b34f2e8f8fb0139069fec50b2dcd2de2fc97f5a0030cd7bb922bfb51737", func := "planisphere/planispherelaw06.LinearAsks", spec := "linearAsks", unfollowed := true, recurses := true, named := ["math/bits.overflowError"], apart := false, narrowed := true }
def LinearAsksUptoSaid : Prop := linearAsksUptoRow.holds Tryz.pinned (OpenSpec.upto linearAsksSpec)

/-- 'planispherelaw06.LinearLeast', WHERE WHAT IT READS IS OF BULK AT MOST 1048576: true; the input reads as it did. -/
def linearLeastUptoRow : OpenClaim := { program := "ytigdclhagmnopaagreat", sum := "6c654b34f2e8f8fb0139069fec50b2dcd2de2fc97f5a0030cd7bb922bfb51737", func := "planisphere/planispherelaw06.LinearLeast", spec := "linearLeast", unfollowed := true, recurses := true, named := ["math/bits.overflowError"], apart := false, narrowed := true }
def LinearLeastUptoSaid : Prop := linearLeastUptoRow.holds Tryz.pinned (OpenSpec.upto linearLeastSpec)

/-- 'planispherelaw06.LinearSolves', WHERE WHAT IT READS IS OF BULK AT MOST 1048576: true; the input reads as it did. -/
def linearSolvesUptoRow : OpenClaim := { program := "ytigdclhagmnopaagreat", sum := "6c654b34f2e8f8fb0139069fec50b2dcd2de2fc97f5a0030cd7bb922bfb51737", func := "planisphere/planispherelaw06.LinearSolves", spec := "linearSolves", unfollowed := true, recurses := true, named := ["math/bits.overflowError"], apart := false, narrowed := true }
def LinearSolvesUptoSaid : Prop := linearSolvesUptoRow.holds Tryz.pinned (OpenSpec.upto linearSolvesSpec)

/-- 'planispherelaw06.LinearDet', WHERE WHAT IT READS IS OF BULK AT MOST 1048576: true; the input reads as it did. -/
def linearDetUptoRow : OpenClaim := { program := "ytigdclhagmnopaagreat", sum := "6c654b34f2e8f8fb0139069fec50b2dcd2de2fc97f5a0030cd7bb922bfb51737", func := "planisphere/planispherelaw06.LinearDet", spec := "linearDet", unfollowed := true, recurses := true, named := ["math/bits.overflowError"], apart := false, narrowed := true }
def LinearDetUptoSaid : Prop := linearDetUptoRow.holds Tryz.pinned (OpenSpec.upto linearDetSpec)

/-- 'planispherelaw06.LinearTrue', WHERE WHAT IT READS IS OF BULK AT MOST 1048576: true; the input reads as it did. -/
def linearTrueUptoRow : OpenClaim := { program := "ytigdclhagmnopaagreat", sum := "6c654b34f2e8f8fb0139069fec50b2dcd2de2fc97f5a0030cd7bb922bfb51737", func := "planisphere/planispherelaw06.LinearTrue", spec := "linearTrue", unfollowed := true, recurses := true, named := ["math/bits.overflowError"], apart := false, narrowed := true }
def LinearTrueUptoSaid : Prop := linearTrueUptoRow.holds Tryz.pinned (OpenSpec.upto linearTrueSpec)

/-- 'planispherelaw06.LinearBest', WHERE WHAT IT READS IS OF BULK AT MOST 1048576: true; the input reads as it did. -/
def linearBestUptoRow : OpenClaim := { program := "ytigdclhagmnopaagreat", sum := "6c654b34f2e8f8fb0139069fec50b2dcd2de2fc97f5a0030cd7bb922bfb51737", func := "planisphere/planispherelaw06.LinearBest", spec := "linearBest", unfollowed := true, recurses := true, named := ["math/bits.overflowError"], apart := false, narrowed := true }
def LinearBestUptoSaid : Prop := linearBestUptoRow.holds Tryz.pinned (OpenSpec.upto linearBestSpec)

/-- 'planispherelaw06.LinearNames', WHERE WHAT IT READS IS OF BULK AT MOST 1048576: true; the input reads as it did. -/
def linearNamesUptoRow : OpenClaim := { program := "ytigdclhagmnopaagreat", sum := "6c654b34f2e8f8fb0139069fec50b2dcd2de2fc97f5a0030cd7bb922bfb51737", func := "planisphere/planispherelaw06.LinearNames", spec := "linearNames", unfollowed := true, recurses := true, named := ["math/bits.overflowError"], apart := false, narrowed := true }
def LinearNamesUptoSaid : Prop := linearNamesUptoRow.holds Tryz.pinned (OpenSpec.upto linearNamesSpec)

end Rows
end Go.Proofs.YtigdclhagmnopaaGreat
