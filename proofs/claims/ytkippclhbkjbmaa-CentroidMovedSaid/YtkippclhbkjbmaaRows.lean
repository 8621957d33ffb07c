/-
  No cell of these rows narrows 'for every input' (looked for: loops, veiled, ifaces, maps, wideKeys, modest, calm, conditions, laid).
  DERIVED. THE GIVEN ROWS OF THIS SEAT. 3 by the template 'for every input the law returns true; each argument reads behind the call as it read before'; 0 by the template 'total and deterministic' (their statements: YtkippclhbkjbmaaTotals.lean).
  GIVEN WITH THE SEED: the statements are not yours to turn. If you find one false, say at which input.
  Laid BY PROGRAM, IN A SANDBOX (cutbox-rows.mjs): the forced cells as the released guide's own fill.sh prints them over the translation fab223e6e3dc94a1… (all of the seat's roots in one cut). By AI agents, Wed Nov 11 2026. No macro, syntax, notation, axiom, sorry.
-/
import Derived.Test.YtkippclhbkjbmaaChecked
import GoSem.Claim
import GoSem.ClaimJoined
import GoSem.ClaimMapViews
import Derived.JoinedTies
import Derived.KernelRfl
namespace Go.Proofs.Ytkippclhbkjbmaa
/- THE CELL 'sum', in the pinned program and in every row, IS THE sha256 OF THE DUMP (.gsa) THAT YtkippclhbkjbmaaProg.lean LOADS. Nothing in Lean hashes anything: it is a label: what it is worth is what the hold of that sum in a sandbox is worth. -/
noncomputable def Try.pinned : Pinned := { name := "ytkippclhbkjbmaa", sum := "fab223e6e3dc94a11c7f8448722fbfb27067df506e1f35dc4515f86a86db6ee7", checked := Try.checked }
namespace Rows
def none {H : Type} : Left H := { results := [], args := [] }

/-- 'planispherelaw14.CentroidNames': WHATEVER THE INPUT: true; the input reads as it did. -/
def centroidNamesSpec : ChangeSpec := { name := "centroidNames", fn := fun _ => fun
  | [] => { results := [.lit (.bool true)], args := [] }
  | _ => none }
def centroidNamesRow : OpenClaim := { program := "ytkippclhbkjbmaa", sum := "fab223e6e3dc94a11c7f8448722fbfb27067df506e1f35dc4515f86a86db6ee7", func := "planisphere/planispherelaw14.CentroidNames", spec := "centroidNames", unfollowed := true, recurses := true, named := ["math/bits.overflowError"], apart := false }
def CentroidNamesSaid : Prop := centroidNamesRow.holds Try.pinned (OpenSpec.ofChange centroidNamesSpec)

/-- ITS FALSE NEIGHBOUR: 'it returns false'. Refute it at one input. -/
def centroidNamesWrong : ChangeSpec := { name := "centroidNames", fn := fun _ => fun
  | [] => { results := [.lit (.bool false)], args := [] }
  | _ => none }
def CentroidNamesWrongFalsely : Prop := centroidNamesRow.holds Try.pinned (OpenSpec.ofChange centroidNamesWrong)

/-- 'planispherelaw14.CentroidNested': WHATEVER THE INPUT: true; the input reads as it did. -/
def centroidNestedSpec : ChangeSpec := { name := "centroidNested", fn := fun _ => fun
  | [d1, d2, d3, d4] => { results := [.lit (.bool true)], args := [d1, d2, d3, d4] }
  | _ => none }
def centroidNestedRow : OpenClaim := { program := "ytkippclhbkjbmaa", sum := "fab223e6e3dc94a11c7f8448722fbfb27067df506e1f35dc4515f86a86db6ee7", func := "planisphere/planispherelaw14.CentroidNested", spec := "centroidNested", unfollowed := true, recurses := true, named := ["math/bits.overflowError"], apart := false }
def CentroidNestedSaid : Prop := centroidNestedRow.holds Try.pinned (OpenSpec.ofChange centroidNestedSpec)

/-- ITS FALSE NEIGHBOUR: 'it returns false'. Refute it at one input. -/
def centroidNestedWrong : ChangeSpec := { name := "centroidNested", fn := fun _ => fun
  | [d1, d2, d3, d4] => { results := [.lit (.bool false)], args := [d1, d2, d3, d4] }
  | _ => none }
def CentroidNestedWrongFalsely : Prop := centroidNestedRow.holds Try.pinned (OpenSpec.ofChange centroidNestedWrong)

/-- 'planispherelaw14.CentroidMoved': WHATEVER THE INPUT: true; the input reads as it did. -/
def centroidMovedSpec : ChangeSpec := { name := "centroidMoved", fn := fun _ => fun
  | [d1, d2, d3, d4] => { results := [.lit (.bool true)], args := [d1, d2, d3, d4] }
  | _ => none }
def centroidMovedRow : OpenClaim := { program := "ytkippclhbkjbmaa", sum := "fab223e6e3dc94a11c7f8448722fbfb27067df506e1f35dc4515f86a86db6ee7", func := "planisphere/planispherelaw14.CentroidMoved", spec := "centroidMoved", unfollowed := true, recurses := true, named := ["math/bits.overflowError"], apart := false }
def CentroidMovedSaid : Prop := centroidMovedRow.holds Try.pinned (OpenSpec.ofChange centroidMovedSpec)

/-- ITS FALSE NEIGHBOUR: 'it returns false'. Refute it at one input. -/
def centroidMovedWrong : ChangeSpec := { name := "centroidMoved", fn := fun _ => fun
  | [d1, d2, d3, d4] => { results := [.lit (.bool false)], args := [d1, d2, d3, d4] }
  | _ => none }
def CentroidMovedWrongFalsely : Prop := centroidMovedRow.holds Try.pinned (OpenSpec.ofChange centroidMovedWrong)

/- THE SECOND FORM. 'bulk': how many values and letters a reading holds, each counted each time it is reached (what is shared counts as often as it is met; a slice's spare places count too). A statement '..UptoSaid' is the law's where the arguments, and the package variables that the reading takes, are together of bulk at most 1048576: NARROWER than '..Said'. Prove '..Said' where nothing that the law and all that it calls make is longer than what came in: it says more and counts as full. Else prove '..UptoSaid'. A law counts once. -/
mutual
def uptoBulk {H : Type} : DataW H → Nat
  | .lit (.string bytes) => bytes.length + 1
  | .lit _ => 1
  | .nil => 1
  | .ptr d => uptoBulk d + 1
  | .slice elems spare => uptoBulkAll elems + uptoBulkAll spare + 1
  | .agg parts => uptoBulkAll parts + 1
  | .iface _ d => uptoBulk d + 1
  | .map entries => uptoBulkEntries entries + 1
  | .held _ => 1
def uptoBulkAll {H : Type} : List (DataW H) → Nat
  | [] => 0
  | d :: r => uptoBulk d + uptoBulkAll r
def uptoBulkEntries {H : Type} : List (Lit × DataW H) → Nat
  | [] => 0
  | x :: r => uptoBulkEntry x + uptoBulkEntries r
def uptoBulkEntry {H : Type} : Lit × DataW H → Nat
  | (.string bytes, d) => bytes.length + uptoBulk d + 1
  | (_, d) => uptoBulk d + 1
 end
def uptoSmall : (H : Type) → List (DataW H) → Bool := fun _ ds => decide (uptoBulkAll ds ≤ 1048576)
def OpenSpec.upto (s : _root_.Go.ChangeSpec) : _root_.Go.OpenSpec := { _root_.Go.OpenSpec.ofChange s with cond := some uptoSmall }

/-- 'planispherelaw14.CentroidNames', WHERE WHAT IT READS IS OF BULK AT MOST 1048576: true; the input reads as it did. -/
def centroidNamesUptoRow : OpenClaim := { program := "ytkippclhbkjbmaa", sum := "fab223e6e3dc94a11c7f8448722fbfb27067df506e1f35dc4515f86a86db6ee7", func := "planisphere/planispherelaw14.CentroidNames", spec := "centroidNames", unfollowed := true, recurses := true, named := ["math/bits.overflowError"], apart := false, narrowed := true }
def CentroidNamesUptoSaid : Prop := centroidNamesUptoRow.holds Try.pinned (OpenSpec.upto centroidNamesSpec)

/-- 'planispherelaw14.CentroidNested', WHERE WHAT IT READS IS OF BULK AT MOST 1048576: true; the input reads as it did. -/
def centroidNestedUptoRow : OpenClaim := { program := "ytkippclhbkjbmaa", sum := "fab223e6e3dc94a11c7f8448722fbfb27067df506e1f35dc4515f86a86db6ee7", func := "planisphere/planispherelaw14.CentroidNested", spec := "centroidNested", unfollowed := true, recurses := true, named := ["math/bits.overflowError"], apart := false, narrowed := true }
def CentroidNestedUptoSaid : Prop := centroidNestedUptoRow.holds Try.pinned (OpenSpec.upto centroidNestedSpec)

/-- 'planispherelaw14.CentroidMoved', WHERE WHAT IT READS IS OF BULK AT MOST 1048576: true; the input reads as it did. -/
def centroidMovedUptoRow : OpenClaim := { program := "ytkippclhbkjbmaa", sum := "fab223e6e3dc94a11c7f8448722fbfb27067df506e1f35dc4515f86a86db6ee7", func := "planisphere/planispherelaw14.CentroidMoved", spec := "centroidMoved", unfollowed := true, recurses := true, named := ["math/bits.overflowError"], apart := false, narrowed := true }
def CentroidMovedUptoSaid : Prop := centroidMovedUptoRow.holds Try.pinned (OpenSpec.upto centroidMovedSpec)

end Rows
end Go.Proofs.Ytkippclhbkjbmaa
