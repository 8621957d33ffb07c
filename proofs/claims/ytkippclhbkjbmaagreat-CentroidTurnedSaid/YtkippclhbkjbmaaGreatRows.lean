/-
  No cell of these rows narrows 'for every input' (looked for: loops, veiled, ifaces, maps, wideKeys, modest, calm, conditions, laid).
  DERIVED. THE GIVEN ROWS OF THIS SEAT. 4 by the template 'for every input the law returns true; each argument reads behind the call as it read before'; 0 by the template 'total and deterministic' (their statements: YtkippclhbkjbmaaGreatTotals.lean).
  GIVEN WITH THE SEED: the statements are not yours to turn. If you find one false, say at which input.
  Laid BY PROGRAM, IN A SANDBOX (cutbox-rows.mjs): the forced cells as the released guide's own fill.sh prints them over the translation 0c795ea5f72cc633… (all of the seat's roots in one cut). By AI agents, Wed Nov 11 2026. No macro, syntax, notation, axiom, sorry.
-/
import Derived.Test.YtkippclhbkjbmaaGreatChecked
import GoSem.Claim
import GoSem.ClaimJoined
import GoSem.ClaimMapViews
import Derived.JoinedTies
import Derived.KernelRfl
namespace Go.Proofs.YtkippclhbkjbmaaGreat
/- THE CELL 'sum', in the pinned program and in every row, IS THE sha256 OF THE DUMP (.gsa) THAT YtkippclhbkjbmaaGreatProg.lean LOADS. Nothing in Lean hashes anything: it is a label: what it is worth is what the hold of that sum in a sandbox is worth. -/
noncomputable def Tryz.pinned : Pinned := { name := "ytkippclhbkjbmaagreat", sum := "0c795ea5f72cc633e537567fb2ddd3be9b4820d3cdee99d6e9503851ccc7e633", checked := Tryz.checked }
namespace Rows
def none {H : Type} : Left H := { results := [], args := [] }

/-- 'planispherelaw14.CentroidMoments': WHATEVER THE INPUT: true; the input reads as it did. -/
def centroidMomentsSpec : ChangeSpec := { name := "centroidMoments", fn := fun _ => fun
  | [d1, d2] => { results := [.lit (.bool true)], args := [d1, d2] }
  | _ => none }
def centroidMomentsRow : OpenClaim := { program := "ytkippclhbkjbmaagreat", sum := "0c795ea5f72cc633e537567fb2ddd3be9b4820d3cdee99d6e9503851ccc7e633", func := "planisphere/planispherelaw14.CentroidMoments", spec := "centroidMoments", unfollowed := true, recurses := true, named := ["math/bits.overflowError"], apart := false }
def CentroidMomentsSaid : Prop := centroidMomentsRow.holds Tryz.pinned (OpenSpec.ofChange centroidMomentsSpec)

/-- ITS FALSE NEIGHBOUR: 'it returns false'. Refute it at one input. -/
def centroidMomentsWrong : ChangeSpec := { name := "centroidMoments", fn := fun _ => fun
  | [d1, d2] => { results := [.lit (.bool false)], args := [d1, d2] }
  | _ => none }
def CentroidMomentsWrongFalsely : Prop := centroidMomentsRow.holds Tryz.pinned (OpenSpec.ofChange centroidMomentsWrong)

/-- 'planispherelaw14.CentroidBounds': WHATEVER THE INPUT: true; the input reads as it did. -/
def centroidBoundsSpec : ChangeSpec := { name := "centroidBounds", fn := fun _ => fun
  | [d1, d2, d3, d4, d5, d6] => { results := [.lit (.bool true)], args := [d1, d2, d3, d4, d5, d6] }
  | _ => none }
def centroidBoundsRow : OpenClaim := { program := "ytkippclhbkjbmaagreat", sum := "0c795ea5f72cc633e537567fb2ddd3be9b4820d3cdee99d6e9503851ccc7e633", func := "planisphere/planispherelaw14.CentroidBounds", spec := "centroidBounds", unfollowed := true, recurses := true, named := ["math/bits.overflowError"], apart := false }
def CentroidBoundsSaid : Prop := centroidBoundsRow.holds Tryz.pinned (OpenSpec.ofChange centroidBoundsSpec)

/-- ITS FALSE NEIGHBOUR: 'it returns false'. Refute it at one input. -/
def centroidBoundsWrong : ChangeSpec := { name := "centroidBounds", fn := fun _ => fun
  | [d1, d2, d3, d4, d5, d6] => { results := [.lit (.bool false)], args := [d1, d2, d3, d4, d5, d6] }
  | _ => none }
def CentroidBoundsWrongFalsely : Prop := centroidBoundsRow.holds Tryz.pinned (OpenSpec.ofChange centroidBoundsWrong)

/-- 'planispherelaw14.CentroidTurned': WHATEVER THE INPUT: true; the input reads as it did. -/
def centroidTurnedSpec : ChangeSpec := { name := "centroidTurned", fn := fun _ => fun
  | [d1, d2, d3] => { results := [.lit (.bool true)], args := [d1, d2, d3] }
  | _ => none }
def centroidTurnedRow : OpenClaim := { program := "ytkippclhbkjbmaagreat", sum := "0c795ea5f72cc633e537567fb2ddd3be9b4820d3cdee99d6e9503851ccc7e633", func := "planisphere/planispherelaw14.CentroidTurned", spec := "centroidTurned", unfollowed := true, recurses := true, named := ["math/bits.overflowError"], apart := false }
def CentroidTurnedSaid : Prop := centroidTurnedRow.holds Tryz.pinned (OpenSpec.ofChange centroidTurnedSpec)

/-- ITS FALSE NEIGHBOUR: 'it returns false'. Refute it at one input. -/
def centroidTurnedWrong : ChangeSpec := { name := "centroidTurned", fn := fun _ => fun
  | [d1, d2, d3] => { results := [.lit (.bool false)], args := [d1, d2, d3] }
  | _ => none }
def CentroidTurnedWrongFalsely : Prop := centroidTurnedRow.holds Tryz.pinned (OpenSpec.ofChange centroidTurnedWrong)

/-- 'planispherelaw14.CentroidHolds': WHATEVER THE INPUT: true; the input reads as it did. -/
def centroidHoldsSpec : ChangeSpec := { name := "centroidHolds", fn := fun _ => fun
  | [d1, d2, d3, d4] => { results := [.lit (.bool true)], args := [d1, d2, d3, d4] }
  | _ => none }
def centroidHoldsRow : OpenClaim := { program := "ytkippclhbkjbmaagreat", sum := "0c795ea5f72cc633e537567fb2ddd3be9b4820d3cdee99d6e9503851ccc7e633", func := "planisphere/planispherelaw14.CentroidHolds", spec := "centroidHolds", unfollowed := true, recurses := true, named := ["math/bits.overflowError"], apart := false }
def CentroidHoldsSaid : Prop := centroidHoldsRow.holds Tryz.pinned (OpenSpec.ofChange centroidHoldsSpec)

/-- ITS FALSE NEIGHBOUR: 'it returns false'. Refute it at one input. -/
def centroidHoldsWrong : ChangeSpec := { name := "centroidHolds", fn := fun _ => fun
  | [d1, d2, d3, d4] => { results := [.lit (.bool false)], args := [d1, d2, d3, d4] }
  | _ => none }
def CentroidHoldsWrongFalsely : Prop := centroidHoldsRow.holds Tryz.pinned (OpenSpec.ofChange centroidHoldsWrong)

/- THE SECOND FORM. 'bulk': how many values and letters a reading holds, each counted each time it is reached (what is shared counts as often as it is met; a slice's spare places count too). A statement '..UptoSaid' is the law's where the arguments, and the package variables that the reading takes, are together of bulk at most 1048576: NARROWER than '..Said'. Prove '..Said' where nothing that the law and all that it calls make is longer than what came in: it says more and counts as full. Else prove '..UptoSaid'. A law counts once. -/
mutual
def uptoBulk {H : Type} : DataW H → Nat
  | .lit (.string bytes) => bytes.length + 1
  | .lit _ => 1
  | .nil => 1
  | .ptr d => uptoBulk d + 1
  | .slice elems spare => uptoBulkAll elems + uptoBulkAll spare + 1
  | .agg parts => uptoBulkAll parts + 1
  | .iface _ d => uptoBulk d + 1
  | .map entries => uptoBulkEntries entries + 1
  | .held _ => 1
def uptoBulkAll {H : Type} : List (DataW H) → Nat
  | [] => 0
  | d :: r => uptoBulk d + uptoBulkAll r
def uptoBulkEntries {H : Type} : List (Lit × DataW H) → Nat
  | [] => 0
  | x :: r => uptoBulkEntry x + uptoBulkEntries r
def uptoBulkEntry {H : Type} : Lit × DataW H → Nat
  | (.string bytes, d) => bytes.length + uptoBulk d + 1
  | (_, d) => uptoBulk d + 1
 end
def uptoSmall : (H : Type) → List (DataW H) → Bool := fun _ ds => decide (uptoBulkAll ds ≤ 1048576)
def OpenSpec.upto (s : _root_.Go.ChangeSpec) : _root_.Go.OpenSpec := { _root_.Go.OpenSpec.ofChange s with cond := some uptoSmall }

/-- 'planispherelaw14.CentroidMoments', WHERE WHAT IT READS IS OF BULK AT MOST 1048576: true; the input reads as it did. -/
def centroidMomentsUptoRow : OpenClaim := { program := "ytkippclhbkjbmaagreat", sum := "0c795ea5f72cc633e537567fb2ddd3be9b4820d3cdee99d6e9503851ccc7e633", func := "planisphere/planispherelaw14.CentroidMoments", spec := "centroidMoments", unfollowed := true, recurses := true, named := ["math/bits.overflowError"], apart := false, narrowed := true }
def CentroidMomentsUptoSaid : Prop := centroidMomentsUptoRow.holds Tryz.pinned (OpenSpec.upto centroidMomentsSpec)

/-- 'planispherelaw14.CentroidBounds', WHERE WHAT IT READS IS OF BULK AT MOST 1048576: true; the input reads as it did. -/
def centroidBoundsUptoRow : OpenClaim := { program := "ytkippclhbkjbmaagreat", sum := "0c795ea5f72cc633e537567fb2ddd3be9b4820d3cdee99d6e9503851ccc7e633", func := "planisphere/planispherelaw14.CentroidBounds", spec := "centroidBounds", unfollowed := true, recurses := true, named := ["math/bits.overflowError"], apart := false, narrowed := true }
def CentroidBoundsUptoSaid : Prop := centroidBoundsUptoRow.holds Tryz.pinned (OpenSpec.upto centroidBoundsSpec)

/-- 'planispherelaw14.CentroidTurned', WHERE WHAT IT READS IS OF BULK AT MOST 1048576: true; the input reads as it did. -/
def centroidTurnedUptoRow : OpenClaim := { program := "ytkippclhbkjbmaagreat", sum := "0c795ea5f72cc633e537567fb2ddd3be9b4820d3cdee99d6e9503851ccc7e633", func := "planisphere/planispherelaw14.CentroidTurned", spec := "centroidTurned", unfollowed := true, recurses := true, named := ["math/bits.overflowError"], apart := false, narrowed := true }
def CentroidTurnedUptoSaid : Prop := centroidTurnedUptoRow.holds Tryz.pinned (OpenSpec.upto centroidTurnedSpec)

/-- 'planispherelaw14.CentroidHolds', WHERE WHAT IT READS IS OF BULK AT MOST 1048576: true; the input reads as it did. -/
def centroidHoldsUptoRow : OpenClaim := { program := "ytkippclhbkjbmaagreat", sum := "0c795ea5f72cc633e537567fb2ddd3be9b4820d3cdee99d6e9503851ccc7e633", func := "planisphere/planispherelaw14.CentroidHolds", spec := "centroidHolds", unfollowed := true, recurses := true, named := ["math/bits.overflowError"], apart := false, narrowed := true }
def CentroidHoldsUptoSaid : Prop := centroidHoldsUptoRow.holds Tryz.pinned (OpenSpec.upto centroidHoldsSpec)

end Rows
end Go.Proofs.YtkippclhbkjbmaaGreat
