/-
  No cell of these rows narrows 'for every input' (looked for: loops, veiled, ifaces, maps, wideKeys, modest, calm, conditions, laid).
  DERIVED. THE GIVEN ROWS OF THIS SEAT. 6 by the template 'for every input the law returns true; each argument reads behind the call as it read before'; 0 by the template 'total and deterministic' (their statements: YthappeninglakaaGreatTotals.lean).
  GIVEN WITH THE SEED: the statements are not yours to turn. If you find one false, say at which input.
  Laid BY PROGRAM, IN A SANDBOX (cutbox-rows.mjs): the forced cells as the released guide's own fill.sh prints them over the translation 7a0eeb0b4616a0f4… (all of the seat's roots in one cut). By AI agents, Wed Nov 11 2026. No macro, syntax, notation, axiom, sorry.
-/
import Derived.Test.YthappeninglakaaGreatChecked
import GoSem.Claim
import GoSem.ClaimJoined
import GoSem.ClaimMapViews
import Derived.JoinedTies
import Derived.KernelRfl
namespace Go.Proofs.YthappeninglakaaGreat
/- THE CELL 'sum', in the pinned program and in every row, IS THE sha256 OF THE DUMP (.gsa) THAT YthappeninglakaaGreatProg.lean LOADS. Nothing in Lean hashes anything: it is a label: what it is worth is what the hold of that sum in a sandbox is worth. -/
noncomputable def Tryz.pinned : Pinned := { name := "ythappeninglakaagreat", sum := "7a0eeb0b4616a0f48ad76b5e74983aac709e589c2b338c4d63212253549a0a7e", checked := Tryz.checked }
namespace Rows
def none {H : Type} : Left H := { results := [], args := [] }

/-- 'planispherelaw37.CovarMakes': WHATEVER THE INPUT: true; the input reads as it did. -/
def covarMakesSpec : ChangeSpec := { name := "covarMakes", fn := fun _ => fun
  | [d1, d2] => { results := [.lit (.bool true)], args := [d1, d2] }
  | _ => none }
def covarMakesRow : OpenClaim := { program := "ythappeninglakaagreat", sum := "7a0eeb0b4616a0f48ad76b5e74983aac709e589c2b338c4d63212253549a0a7e", func := "planisphere/planispherelaw37.CovarMakes", spec := "covarMakes", unfollowed := true, recurses := true, named := ["math/bits.overflowError"], apart := false }
def CovarMakesSaid : Prop := covarMakesRow.holds Tryz.pinned (OpenSpec.ofChange covarMakesSpec)

/-- ITS FALSE NEIGHBOUR: 'it returns false'. Refute it at one input. -/
def covarMakesWrong : ChangeSpec := { name := "covarMakes", fn := fun _ => fun
  | [d1, d2] => { results := [.lit (.bool false)], args := [d1, d2] }
  | _ => none }
def CovarMakesWrongFalsely : Prop := covarMakesRow.holds Tryz.pinned (OpenSpec.ofChange covarMakesWrong)

/-- 'planispherelaw37.CovarTrue': WHATEVER THE INPUT: true; the input reads as it did. -/
def covarTrueSpec : ChangeSpec := { name := "covarTrue", fn := fun _ => fun
  | [d1, d2] => { results := [.lit (.bool true)], args := [d1, d2] }
  | _ => none }
def covarTrueRow : OpenClaim := { program := "ythappeninglakaagreat", sum := "7a0eeb0b4616a0f48ad76b5e74983aac709e589c2b338c4d63212253549a0a7e", func := "planisphere/planispherelaw37.CovarTrue", spec := "covarTrue", unfollowed := true, recurses := true, named := ["math/bits.overflowError"], apart := false }
def CovarTrueSaid : Prop := covarTrueRow.holds Tryz.pinned (OpenSpec.ofChange covarTrueSpec)

/-- ITS FALSE NEIGHBOUR: 'it returns false'. Refute it at one input. -/
def covarTrueWrong : ChangeSpec := { name := "covarTrue", fn := fun _ => fun
  | [d1, d2] => { results := [.lit (.bool false)], args := [d1, d2] }
  | _ => none }
def CovarTrueWrongFalsely : Prop := covarTrueRow.holds Tryz.pinned (OpenSpec.ofChange covarTrueWrong)

/-- 'planispherelaw37.CovarDistances': WHATEVER THE INPUT: true; the input reads as it did. -/
def covarDistancesSpec : ChangeSpec := { name := "covarDistances", fn := fun _ => fun
  | [d1, d2, d3, d4] => { results := [.lit (.bool true)], args := [d1, d2, d3, d4] }
  | _ => none }
def covarDistancesRow : OpenClaim := { program := "ythappeninglakaagreat", sum := "7a0eeb0b4616a0f48ad76b5e74983aac709e589c2b338c4d63212253549a0a7e", func := "planisphere/planispherelaw37.CovarDistances", spec := "covarDistances", unfollowed := true, recurses := true, named := ["math/bits.overflowError"], apart := false }
def CovarDistancesSaid : Prop := covarDistancesRow.holds Tryz.pinned (OpenSpec.ofChange covarDistancesSpec)

/-- ITS FALSE NEIGHBOUR: 'it returns false'. Refute it at one input. -/
def covarDistancesWrong : ChangeSpec := { name := "covarDistances", fn := fun _ => fun
  | [d1, d2, d3, d4] => { results := [.lit (.bool false)], args := [d1, d2, d3, d4] }
  | _ => none }
def CovarDistancesWrongFalsely : Prop := covarDistancesRow.holds Tryz.pinned (OpenSpec.ofChange covarDistancesWrong)

/-- 'planispherelaw37.CovarAxes': WHATEVER THE INPUT: true; the input reads as it did. -/
def covarAxesSpec : ChangeSpec := { name := "covarAxes", fn := fun _ => fun
  | [d] => { results := [.lit (.bool true)], args := [d] }
  | _ => none }
def covarAxesRow : OpenClaim := { program := "ythappeninglakaagreat", sum := "7a0eeb0b4616a0f48ad76b5e74983aac709e589c2b338c4d63212253549a0a7e", func := "planisphere/planispherelaw37.CovarAxes", spec := "covarAxes", unfollowed := true, recurses := true, named := ["math/bits.overflowError"], apart := false }
def CovarAxesSaid : Prop := covarAxesRow.holds Tryz.pinned (OpenSpec.ofChange covarAxesSpec)

/-- ITS FALSE NEIGHBOUR: 'it returns false'. Refute it at one input. -/
def covarAxesWrong : ChangeSpec := { name := "covarAxes", fn := fun _ => fun
  | [d] => { results := [.lit (.bool false)], args := [d] }
  | _ => none }
def CovarAxesWrongFalsely : Prop := covarAxesRow.holds Tryz.pinned (OpenSpec.ofChange covarAxesWrong)

/-- 'planispherelaw37.CovarImages': WHATEVER THE INPUT: true; the input reads as it did. -/
def covarImagesSpec : ChangeSpec := { name := "covarImages", fn := fun _ => fun
  | [d1, d2, d3] => { results := [.lit (.bool true)], args := [d1, d2, d3] }
  | _ => none }
def covarImagesRow : OpenClaim := { program := "ythappeninglakaagreat", sum := "7a0eeb0b4616a0f48ad76b5e74983aac709e589c2b338c4d63212253549a0a7e", func := "planisphere/planispherelaw37.CovarImages", spec := "covarImages", unfollowed := true, recurses := true, named := ["math/bits.overflowError"], apart := false }
def CovarImagesSaid : Prop := covarImagesRow.holds Tryz.pinned (OpenSpec.ofChange covarImagesSpec)

/-- ITS FALSE NEIGHBOUR: 'it returns false'. Refute it at one input. -/
def covarImagesWrong : ChangeSpec := { name := "covarImages", fn := fun _ => fun
  | [d1, d2, d3] => { results := [.lit (.bool false)], args := [d1, d2, d3] }
  | _ => none }
def CovarImagesWrongFalsely : Prop := covarImagesRow.holds Tryz.pinned (OpenSpec.ofChange covarImagesWrong)

/-- 'planispherelaw37.CovarNames': WHATEVER THE INPUT: true; the input reads as it did. -/
def covarNamesSpec : ChangeSpec := { name := "covarNames", fn := fun _ => fun
  | [] => { results := [.lit (.bool true)], args := [] }
  | _ => none }
def covarNamesRow : OpenClaim := { program := "ythappeninglakaagreat", sum := "7a0eeb0b4616a0f48ad76b5e74983aac709e589c2b338c4d63212253549a0a7e", func := "planisphere/planispherelaw37.CovarNames", spec := "covarNames", unfollowed := true, recurses := true, named := ["math/bits.overflowError"], apart := false }
def CovarNamesSaid : Prop := covarNamesRow.holds Tryz.pinned (OpenSpec.ofChange covarNamesSpec)

/-- ITS FALSE NEIGHBOUR: 'it returns false'. Refute it at one input. -/
def covarNamesWrong : ChangeSpec := { name := "covarNames", fn := fun _ => fun
  | [] => { results := [.lit (.bool false)], args := [] }
  | _ => none }
def CovarNamesWrongFalsely : Prop := covarNamesRow.holds Tryz.pinned (OpenSpec.ofChange covarNamesWrong)

/- THE SECOND FORM. 'bulk': how many values and letters a reading holds, each counted each time it is reached (what is shared counts as often as it is met; a slice's spare places count too). A statement '..UptoSaid' is the law's where the arguments, and the package variables that the reading takes, are together of bulk at most 1048576: NARROWER than '..Said'. Prove '..Said' where nothing that the law and all that it calls make is longer than what came in: it says more and counts as full. Else prove '..UptoSaid'. A law counts once. -/
mutual
def uptoBulk {H : Type} : DataW H → Nat
  | .lit (.string bytes) => bytes.length + 1
  | .lit _ => 1
  | .nil => 1
  | .ptr d => uptoBulk d + 1
  | .slice elems spare => uptoBulkAll elems + uptoBulkAll spare + 1
  | .agg parts => uptoBulkAll parts + 1
  | .iface _ d => uptoBulk d + 1
  | .map entries => uptoBulkEntries entries + 1
  | .held _ => 1
def uptoBulkAll {H : Type} : List (DataW H) → Nat
  | [] => 0
  | d :: r => uptoBulk d + uptoBulkAll r
def uptoBulkEntries {H : Type} : List (Lit × DataW H) → Nat
  | [] => 0
  | x :: r => uptoBulkEntry x + uptoBulkEntries r
def uptoBulkEntry {H : Type} : Lit × DataW H → Nat
  | (.string bytes, d) => bytes.length + uptoBulk d + 1
  | (_, d) => uptoBulk d + 1
 end
def uptoSmall : (H : Type) → List (DataW H) → Bool := fun _ ds => decide (uptoBulkAll ds ≤ 1048576)
def OpenSpec.upto (s : _root_.Go.ChangeSpec) : _root_.Go.OpenSpec := { _root_.Go.OpenSpec.ofChange s with cond := some uptoSmall }

/-- 'planispherelaw37.CovarMakes', WHERE WHAT IT READS IS OF BULK AT MOST 1048576: true; the input reads as it did. -/
def covarMakesUptoRow : OpenClaim := { program := "ythappeninglakaagreat", sum := "7a0eeb0b4616a0f48ad76b5e74983aac709e589c2b338c4d63212253549a0a7e", func := "planisphere/planispherelaw37.CovarMakes", spec := "covarMakes", unfollowed := true, recurses := true, named := ["math/bits.overflowError"], apart := false, narrowed := true }
def CovarMakesUptoSaid : Prop := covarMakesUptoRow.holds Tryz.pinned (OpenSpec.upto covarMakesSpec)

/-- 'planispherelaw37.CovarTrue', WHERE WHAT IT READS IS OF BULK AT MOST 1048576: true; the input reads as it did. -/
def covarTrueUptoRow : OpenClaim := { program := "ythappeninglakaagreat", sum := "7a0eeb0b4616a0f48ad76b5e74983aac709e589c2b338c4d63212253549a0a7e", func := "planisphere/planispherelaw37.CovarTrue", spec := "covarTrue", unfollowed := true, recurses := true, named := ["math/bits.overflowError"], apart := false, narrowed := true }
def CovarTrueUptoSaid : Prop := covarTrueUptoRow.holds Tryz.pinned (OpenSpec.upto covarTrueSpec)

/-- 'planispherelaw37.CovarDistances', WHERE WHAT IT READS IS OF BULK AT MOST 1048576: true; the input reads as it did. -/
def covarDistancesUptoRow : OpenClaim := { program := "ythappeninglakaagreat", sum := "7a0eeb0b4616a0f48ad76b5e74983aac709e589c2b338c4d63212253549a0a7e", func := "planisphere/planispherelaw37.CovarDistances", spec := "covarDistances", unfollowed := true, recurses := true, named := ["math/bits.overflowError"], apart := false, narrowed := true }
def CovarDistancesUptoSaid : Prop := covarDistancesUptoRow.holds Tryz.pinned (OpenSpec.upto covarDistancesSpec)

/-- 'planispherelaw37.CovarAxes', WHERE WHAT IT READS IS OF BULK AT MOST 1048576: true; the input reads as it did. -/
def covarAxesUptoRow : OpenClaim := { program := "ythappeninglakaagreat", sum := "7a0eeb0b4616a0f48ad76b5e74983aac709e589c2b338c4d63212253549a0a7e", func := "planisphere/planispherelaw37.CovarAxes", spec := "covarAxes", unfollowed := true, recurses := true, named := ["math/bits.overflowError"], apart := false, narrowed := true }
def CovarAxesUptoSaid : Prop := covarAxesUptoRow.holds Tryz.pinned (OpenSpec.upto covarAxesSpec)

/-- 'planispherelaw37.CovarImages', WHERE WHAT IT READS IS OF BULK AT MOST 1048576: true; the input reads as it did. -/
def covarImagesUptoRow : OpenClaim := { program := "ythappeninglakaagreat", sum := "7a0eeb0b4616a0f48ad76b5e74983aac709e589c2b338c4d63212253549a0a7e", func := "planisphere/planispherelaw37.CovarImages", spec := "covarImages", unfollowed := true, recurses := true, named := ["math/bits.overflowError"], apart := false, narrowed := true }
def CovarImagesUptoSaid : Prop := covarImagesUptoRow.holds Tryz.pinned (OpenSpec.upto covarImagesSpec)

/-- 'planispherelaw37.CovarNames', WHERE WHAT IT READS IS OF BULK AT MOST 1048576: true; the input reads as it did. -/
def covarNamesUptoRow : OpenClaim := { program := "ythappeninglakaagreat", sum := "7a0eeb0b4616a0f48ad76b5e74983aac709e589c2b338c4d63212253549a0a7e", func := "planisphere/planispherelaw37.CovarNames", spec := "covarNames", unfollowed := true, recurses := true, named := ["math/bits.overflowError"], apart := false, narrowed := true }
def CovarNamesUptoSaid : Prop := covarNamesUptoRow.holds Tryz.pinned (OpenSpec.upto covarNamesSpec)

end Rows
end Go.Proofs.YthappeninglakaaGreat
