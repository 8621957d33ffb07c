/-
  No cell of these rows narrows 'for every input' (looked for: loops, veiled, ifaces, maps, wideKeys, modest, calm, conditions, laid).
  DERIVED. THE GIVEN ROWS OF THIS SEAT. 4 by the template 'for every input the law returns true; each argument reads behind the call as it read before'; 0 by the template 'total and deterministic' (their statements: YtljocgdhdilglaaGreatTotals.lean).
  GIVEN WITH THE SEED: the statements are not yours to turn. If you find one false, say at which input.
  Laid BY PROGRAM, IN A SANDBOX (cutbox-rows.mjs): the forced cells as the released guide's own fill.sh prints them over the translation 651bf7f140bb0ca9… (all of the seat's roots in one cut). By AI agents, Wed Nov 11 2026. No macro, syntax, notation, axiom, sorry.
-/
import Derived.Test.YtljocgdhdilglaaGreatChecked
import GoSem.Claim
import GoSem.ClaimJoined
import GoSem.ClaimMapViews
import Derived.JoinedTies
import Derived.KernelRfl
namespace Go.Proofs.YtljocgdhdilglaaGreat
/- THE CELL 'sum', in the pinned program and in every row, IS THE sha256 OF THE DUMP (.gsa) THAT YtljocgdhdilglaaGreatProg.lean LOADS. Nothing in Lean hashes anything: it is a label: what it is worth is what the hold of that sum in a sandbox is worth. -/
noncomputable def Tryz.pinned : Pinned := { name := "ytljocgdhdilglaagreat", sum := "651bf7f140bb0ca96cd0e67ad8cceff18e682981b441c51870fbc29d243a7528", checked := Tryz.checked }
namespace Rows
def none {H : Type} : Left H := { results := [], args := [] }

/-- 'planispherelaw04.PolyFree': WHATEVER THE INPUT: true; the input reads as it did. -/
def polyFreeSpec : ChangeSpec := { name := "polyFree", fn := fun _ => fun
  | [d1, d2] => { results := [.lit (.bool true)], args := [d1, d2] }
  | _ => none }
def polyFreeRow : OpenClaim := { program := "ytljocgdhdilglaagreat", sum := "651bf7f140bb0ca96cd0e67ad8cceff18e682981b441c51870fbc29d243a7528", func := "planisphere/planispherelaw04.PolyFree", spec := "polyFree", unfollowed := true, recurses := true, named := ["math/bits.overflowError"], apart := false }
def PolyFreeSaid : Prop := polyFreeRow.holds Tryz.pinned (OpenSpec.ofChange polyFreeSpec)

/-- ITS FALSE NEIGHBOUR: 'it returns false'. Refute it at one input. -/
def polyFreeWrong : ChangeSpec := { name := "polyFree", fn := fun _ => fun
  | [d1, d2] => { results := [.lit (.bool false)], args := [d1, d2] }
  | _ => none }
def PolyFreeWrongFalsely : Prop := polyFreeRow.holds Tryz.pinned (OpenSpec.ofChange polyFreeWrong)

/-- 'planispherelaw04.PolyDivides': WHATEVER THE INPUT: true; the input reads as it did. -/
def polyDividesSpec : ChangeSpec := { name := "polyDivides", fn := fun _ => fun
  | [d1, d2, d3] => { results := [.lit (.bool true)], args := [d1, d2, d3] }
  | _ => none }
def polyDividesRow : OpenClaim := { program := "ytljocgdhdilglaagreat", sum := "651bf7f140bb0ca96cd0e67ad8cceff18e682981b441c51870fbc29d243a7528", func := "planisphere/planispherelaw04.PolyDivides", spec := "polyDivides", unfollowed := true, recurses := true, named := ["math/bits.overflowError"], apart := false }
def PolyDividesSaid : Prop := polyDividesRow.holds Tryz.pinned (OpenSpec.ofChange polyDividesSpec)

/-- ITS FALSE NEIGHBOUR: 'it returns false'. Refute it at one input. -/
def polyDividesWrong : ChangeSpec := { name := "polyDivides", fn := fun _ => fun
  | [d1, d2, d3] => { results := [.lit (.bool false)], args := [d1, d2, d3] }
  | _ => none }
def PolyDividesWrongFalsely : Prop := polyDividesRow.holds Tryz.pinned (OpenSpec.ofChange polyDividesWrong)

/-- 'planispherelaw04.PolyRing': WHATEVER THE INPUT: true; the input reads as it did. -/
def polyRingSpec : ChangeSpec := { name := "polyRing", fn := fun _ => fun
  | [d1, d2, d3] => { results := [.lit (.bool true)], args := [d1, d2, d3] }
  | _ => none }
def polyRingRow : OpenClaim := { program := "ytljocgdhdilglaagreat", sum := "651bf7f140bb0ca96cd0e67ad8cceff18e682981b441c51870fbc29d243a7528", func := "planisphere/planispherelaw04.PolyRing", spec := "polyRing", unfollowed := true, recurses := true, named := ["math/bits.overflowError"], apart := false }
def PolyRingSaid : Prop := polyRingRow.holds Tryz.pinned (OpenSpec.ofChange polyRingSpec)

/-- ITS FALSE NEIGHBOUR: 'it returns false'. Refute it at one input. -/
def polyRingWrong : ChangeSpec := { name := "polyRing", fn := fun _ => fun
  | [d1, d2, d3] => { results := [.lit (.bool false)], args := [d1, d2, d3] }
  | _ => none }
def PolyRingWrongFalsely : Prop := polyRingRow.holds Tryz.pinned (OpenSpec.ofChange polyRingWrong)

/-- 'planispherelaw04.PolyNames': WHATEVER THE INPUT: true; the input reads as it did. -/
def polyNamesSpec : ChangeSpec := { name := "polyNames", fn := fun _ => fun
  | [] => { results := [.lit (.bool true)], args := [] }
  | _ => none }
def polyNamesRow : OpenClaim := { program := "ytljocgdhdilglaagreat", sum := "651bf7f140bb0ca96cd0e67ad8cceff18e682981b441c51870fbc29d243a7528", func := "planisphere/planispherelaw04.PolyNames", spec := "polyNames", unfollowed := true, recurses := true, named := ["math/bits.overflowError"], apart := false }
def PolyNamesSaid : Prop := polyNamesRow.holds Tryz.pinned (OpenSpec.ofChange polyNamesSpec)

/-- ITS FALSE NEIGHBOUR: 'it returns false'. Refute it at one input. -/
def polyNamesWrong : ChangeSpec := { name := "polyNames", fn := fun _ => fun
  | [] => { results := [.lit (.bool false)], args := [] }
  | _ => none }
def PolyNamesWrongFalsely : Prop := polyNamesRow.holds Tryz.pinned (OpenSpec.ofChange polyNamesWrong)

/- THE SECOND FORM. 'bulk': how many values and letters a reading holds, each counted each time it is reached (what is shared counts as often as it is met; a slice's spare places count too). A statement '..UptoSaid' is the law's where the arguments, and the package variables that the reading takes, are together of bulk at most 1048576: NARROWER than '..Said'. Prove '..Said' where nothing that the law and all that it calls make is longer than what came in: it says more and counts as full. Else prove '..UptoSaid'. A law counts once. -/
mutual
def uptoBulk {H : Type} : DataW H → Nat
  | .lit (.string bytes) => bytes.length + 1
  | .lit _ => 1
  | .nil => 1
  | .ptr d => uptoBulk d + 1
  | .slice elems spare => uptoBulkAll elems + uptoBulkAll spare + 1
  | .agg parts => uptoBulkAll parts + 1
  | .iface _ d => uptoBulk d + 1
  | .map entries => uptoBulkEntries entries + 1
  | .held _ => 1
def uptoBulkAll {H : Type} : List (DataW H) → Nat
  | [] => 0
  | d :: r => uptoBulk d + uptoBulkAll r
def uptoBulkEntries {H : Type} : List (Lit × DataW H) → Nat
  | [] => 0
  | x :: r => uptoBulkEntry x + uptoBulkEntries r
def uptoBulkEntry {H : Type} : Lit × DataW H → Nat
  | (.string bytes, d) => bytes.length + uptoBulk d + 1
  | (_, d) => uptoBulk d + 1
 end
def uptoSmall : (H : Type) → List (DataW H) → Bool := fun _ ds => decide (uptoBulkAll ds ≤ 1048576)
def OpenSpec.upto (s : _root_.Go.ChangeSpec) : _root_.Go.OpenSpec := { _root_.Go.OpenSpec.ofChange s with cond := some uptoSmall }

/-- 'planispherelaw04.PolyFree', WHERE WHAT IT READS IS OF BULK AT MOST 1048576: true; the input reads as it did. -/
def polyFreeUptoRow : OpenClaim := { program := "ytljocgdhdilglaagreat", sum := "651bf7f140bb0ca96cd0e67ad8cceff18e682981b441c51870fbc29d243a7528", func := "planisphere/planispherelaw04.PolyFree", spec := "polyFree", unfollowed := true, recurses := true, named := ["math/bits.overflowError"], apart := false, narrowed := true }
def PolyFreeUptoSaid : Prop := polyFreeUptoRow.holds Tryz.pinned (OpenSpec.upto polyFreeSpec)

/-- 'planispherelaw04.PolyDivides', WHERE WHAT IT READS IS OF BULK AT MOST 1048576: true; the input reads as it did. -/
def polyDividesUptoRow : OpenClaim := { program := "ytljocgdhdilglaagreat", sum := "651bf7f140bb0ca96cd0e67ad8cceff18e682981b441c51870fbc29d243a7528", func := "planisphere/planispherelaw04.PolyDivides", spec := "polyDivides", unfollowed := true, recurses := true, named := ["math/bits.overflowError"], apart := false, narrowed := true }
def PolyDividesUptoSaid : Prop := polyDividesUptoRow.holds Tryz.pinned (OpenSpec.upto polyDividesSpec)

/-- 'planispherelaw04.PolyRing', WHERE WHAT IT READS IS OF BULK AT MOST 1048576: true; the input reads as it did. -/
def polyRingUptoRow : OpenClaim := { program := "ytljocgdhdilglaagreat", sum := "651bf7f140bb0ca96cd0e67ad8cceff18e682981b441c51870fbc29d243a7528", func := "planisphere/planispherelaw04.PolyRing", spec := "polyRing", unfollowed := true, recurses := true, named := ["math/bits.overflowError"], apart := false, narrowed := true }
def PolyRingUptoSaid : Prop := polyRingUptoRow.holds Tryz.pinned (OpenSpec.upto polyRingSpec)

/-- 'planispherelaw04.PolyNames', WHERE WHAT IT READS IS OF BULK AT MOST 1048576: true; the input reads as it did. -/
def polyNamesUptoRow : OpenClaim := { program := "ytljocgdhdilglaagreat", sum := "651bf7f140bb0ca96cd0e67ad8cceff18e682981b441c51870fbc29d243a7528", func := "planisphere/planispherelaw04.PolyNames", spec := "polyNames", unfollowed := true, recurses := true, named := ["math/bits.overflowError"], apart := false, narrowed := true }
def PolyNamesUptoSaid : Prop := polyNamesUptoRow.holds Tryz.pinned (OpenSpec.upto polyNamesSpec)

end Rows
end Go.Proofs.YtljocgdhdilglaaGreat
