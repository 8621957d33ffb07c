/-
  NARROWER THAN 'FOR EVERY INPUT', by the rows' own cells (each row's printed sentence says how): PlateNames: laid · PlateBack: laid · PlateLeast: laid · PlateExact: laid.
  DERIVED. THE GIVEN ROWS OF THIS SEAT. 4 by the template 'for every input the law returns true; each argument reads behind the call as it read before'; 0 by the template 'total and deterministic' (their statements: YtdkhcplnoomcbaaGreatDoorTotals.lean).
  GIVEN WITH THE SEED: the statements are not yours to turn. If you find one false, say at which input.
  Laid BY PROGRAM, IN A SANDBOX (cutbox-rows.mjs): the forced cells as the released guide's own fill.sh prints them over the translation b34890645c037df6… (all of the seat's roots in one cut). By AI agents, Wed Nov 11 2026. No macro, syntax, notation, axiom, sorry.
-/
import Derived.Test.YtdkhcplnoomcbaaGreatDoorChecked
import GoSem.Claim
import GoSem.ClaimJoined
import GoSem.ClaimMapViews
import Derived.JoinedTies
import Derived.KernelRfl
namespace Go.Proofs.YtdkhcplnoomcbaaGreatDoor
/- THE CELL 'sum', in the pinned program and in every row, IS THE sha256 OF THE DUMP (.gsa) THAT YtdkhcplnoomcbaaGreatDoorProg.lean LOADS. Nothing in Lean hashes anything: it is a label: what it is worth is what the hold of that sum in a sandbox is worth. -/
noncomputable def Tryz.pinned : Pinned := { name := "ytdkhcplnoomcbaagreatdoor", sum := "b34890645c037df689c3531373cdf66855b689dc400a81bc8fe20f406dc61f9e", checked := Tryz.checked }
namespace Rows
def none {H : Type} : Left H := { results := [], args := [] }

/- WHAT THE LISTED PACKAGE-LEVEL VARIABLES READ AS WHEN THE CALL BEGINS. Each datum BY PROGRAM (the guide's laid-datum.mjs) off the statement by which the dump's own 'gosem.cut.vars' lays the variable. In a bare row this is a premise. The card (YtdkhcplnoomcbaaGreatDoorCards.lean) ties it to the program's text. -/
def laid_planisphere_plate_powers {H : Type} : DataW H := .agg [.agg [.lit (.int .i64 0), .lit (.int .i64 0)], .agg [.lit (.int .i64 1), .lit (.int .i64 0)], .agg [.lit (.int .i64 0), .lit (.int .i64 1)], .agg [.lit (.int .i64 2), .lit (.int .i64 0)], .agg [.lit (.int .i64 1), .lit (.int .i64 1)], .agg [.lit (.int .i64 0), .lit (.int .i64 2)], .agg [.lit (.int .i64 3), .lit (.int .i64 0)], .agg [.lit (.int .i64 2), .lit (.int .i64 1)], .agg [.lit (.int .i64 1), .lit (.int .i64 2)], .agg [.lit (.int .i64 0), .lit (.int .i64 3)]]

/-- 'planispherelaw22.PlateNames': WHATEVER THE INPUT: true; the input reads as it did. -/
def plateNamesSpec : ChangeSpec := { name := "plateNames", fn := fun _ => fun
  | [] => { results := [.lit (.bool true)], args := [] }
  | _ => none }
def plateNamesRow : OpenClaim := { program := "ytdkhcplnoomcbaagreatdoor", sum := "b34890645c037df689c3531373cdf66855b689dc400a81bc8fe20f406dc61f9e", func := "planisphere/planispherelaw22.PlateNames", spec := "plateNames", unfollowed := true, recurses := true, named := ["planisphere/plate.powers", "math/bits.overflowError"], apart := false, laid := [("planisphere/plate.powers", laid_planisphere_plate_powers)] }
def PlateNamesSaid : Prop := plateNamesRow.holds Tryz.pinned (OpenSpec.ofChange plateNamesSpec)

/-- ITS FALSE NEIGHBOUR: 'it returns false'. Refute it at one input. -/
def plateNamesWrong : ChangeSpec := { name := "plateNames", fn := fun _ => fun
  | [] => { results := [.lit (.bool false)], args := [] }
  | _ => none }
def PlateNamesWrongFalsely : Prop := plateNamesRow.holds Tryz.pinned (OpenSpec.ofChange plateNamesWrong)

/-- 'planispherelaw22.PlateBack': WHATEVER THE INPUT: true; the input reads as it did. -/
def plateBackSpec : ChangeSpec := { name := "plateBack", fn := fun _ => fun
  | [d1, d2, d3] => { results := [.lit (.bool true)], args := [d1, d2, d3] }
  | _ => none }
def plateBackRow : OpenClaim := { program := "ytdkhcplnoomcbaagreatdoor", sum := "b34890645c037df689c3531373cdf66855b689dc400a81bc8fe20f406dc61f9e", func := "planisphere/planispherelaw22.PlateBack", spec := "plateBack", unfollowed := true, recurses := true, named := ["planisphere/plate.powers", "math/bits.overflowError"], apart := false, laid := [("planisphere/plate.powers", laid_planisphere_plate_powers)] }
def PlateBackSaid : Prop := plateBackRow.holds Tryz.pinned (OpenSpec.ofChange plateBackSpec)

/-- ITS FALSE NEIGHBOUR: 'it returns false'. Refute it at one input. -/
def plateBackWrong : ChangeSpec := { name := "plateBack", fn := fun _ => fun
  | [d1, d2, d3] => { results := [.lit (.bool false)], args := [d1, d2, d3] }
  | _ => none }
def PlateBackWrongFalsely : Prop := plateBackRow.holds Tryz.pinned (OpenSpec.ofChange plateBackWrong)

/-- 'planispherelaw22.PlateLeast': WHATEVER THE INPUT: true; the input reads as it did. -/
def plateLeastSpec : ChangeSpec := { name := "plateLeast", fn := fun _ => fun
  | [d1, d2] => { results := [.lit (.bool true)], args := [d1, d2] }
  | _ => none }
def plateLeastRow : OpenClaim := { program := "ytdkhcplnoomcbaagreatdoor", sum := "b34890645c037df689c3531373cdf66855b689dc400a81bc8fe20f406dc61f9e", func := "planisphere/planispherelaw22.PlateLeast", spec := "plateLeast", unfollowed := true, recurses := true, named := ["planisphere/plate.powers", "math/bits.overflowError"], apart := false, laid := [("planisphere/plate.powers", laid_planisphere_plate_powers)] }
def PlateLeastSaid : Prop := plateLeastRow.holds Tryz.pinned (OpenSpec.ofChange plateLeastSpec)

/-- ITS FALSE NEIGHBOUR: 'it returns false'. Refute it at one input. -/
def plateLeastWrong : ChangeSpec := { name := "plateLeast", fn := fun _ => fun
  | [d1, d2] => { results := [.lit (.bool false)], args := [d1, d2] }
  | _ => none }
def PlateLeastWrongFalsely : Prop := plateLeastRow.holds Tryz.pinned (OpenSpec.ofChange plateLeastWrong)

/-- 'planispherelaw22.PlateExact': WHATEVER THE INPUT: true; the input reads as it did. -/
def plateExactSpec : ChangeSpec := { name := "plateExact", fn := fun _ => fun
  | [d1, d2, d3] => { results := [.lit (.bool true)], args := [d1, d2, d3] }
  | _ => none }
def plateExactRow : OpenClaim := { program := "ytdkhcplnoomcbaagreatdoor", sum := "b34890645c037df689c3531373cdf66855b689dc400a81bc8fe20f406dc61f9e", func := "planisphere/planispherelaw22.PlateExact", spec := "plateExact", unfollowed := true, recurses := true, named := ["planisphere/plate.powers", "math/bits.overflowError"], apart := false, laid := [("planisphere/plate.powers", laid_planisphere_plate_powers)] }
def PlateExactSaid : Prop := plateExactRow.holds Tryz.pinned (OpenSpec.ofChange plateExactSpec)

/-- ITS FALSE NEIGHBOUR: 'it returns false'. Refute it at one input. -/
def plateExactWrong : ChangeSpec := { name := "plateExact", fn := fun _ => fun
  | [d1, d2, d3] => { results := [.lit (.bool false)], args := [d1, d2, d3] }
  | _ => none }
def PlateExactWrongFalsely : Prop := plateExactRow.holds Tryz.pinned (OpenSpec.ofChange plateExactWrong)

/- THE SECOND FORM. 'bulk': how many values and letters a reading holds, each counted each time it is reached (what is shared counts as often as it is met; a slice's spare places count too). A statement '..UptoSaid' is the law's where the arguments, and the package variables that the reading takes, are together of bulk at most 1048576: NARROWER than '..Said'. Prove '..Said' where nothing that the law and all that it calls make is longer than what came in: it says more and counts as full. Else prove '..UptoSaid'. A law counts once. -/
mutual
def uptoBulk {H : Type} : DataW H → Nat
  | .lit (.string bytes) => bytes.length + 1
  | .lit _ => 1
  | .nil => 1
  | .ptr d => uptoBulk d + 1
  | .slice elems spare => uptoBulkAll elems + uptoBulkAll spare + 1
  | .agg parts => uptoBulkAll parts + 1
  | .iface _ d => uptoBulk d + 1
  | .map entries => uptoBulkEntries entries + 1
  | .held _ => 1
def uptoBulkAll {H : Type} : List (DataW H) → Nat
  | [] => 0
  | d :: r => uptoBulk d + uptoBulkAll r
def uptoBulkEntries {H : Type} : List (Lit × DataW H) → Nat
  | [] => 0
  | x :: r => uptoBulkEntry x + uptoBulkEntries r
def uptoBulkEntry {H : Type} : Lit × DataW H → Nat
  | (.string bytes, d) => bytes.length + uptoBulk d + 1
  | (_, d) => uptoBulk d + 1
 end
def uptoSmall : (H : Type) → List (DataW H) → Bool := fun _ ds => decide (uptoBulkAll ds ≤ 1048576)
def OpenSpec.upto (s : _root_.Go.ChangeSpec) : _root_.Go.OpenSpec := { _root_.Go.OpenSpec.ofChange s with cond := some uptoSmall }

/-- 'planispherelaw22.PlateNames', WHERE WHAT IT READS IS OF BULK AT MOST 1048576: true; the input reads as it did. -/
def plateNamesUptoRow : OpenClaim := { program := "ytdkhcplnoomcbaagreatdoor", sum := "b34890645c037df689c3531373cdf66855b689dc400a81bc8fe20f406dc61f9e", func := "planisphere/planispherelaw22.PlateNames", spec := "plateNames", unfollowed := true, recurses := true, named := ["planisphere/plate.powers", "math/bits.overflowError"], apart := false, laid := [("planisphere/plate.powers", laid_planisphere_plate_powers)], narrowed := true }
def PlateNamesUptoSaid : Prop := plateNamesUptoRow.holds Tryz.pinned (OpenSpec.upto plateNamesSpec)

/-- 'planispherelaw22.PlateBack', WHERE WHAT IT READS IS OF BULK AT MOST 1048576: true; the input reads as it did. -/
def plateBackUptoRow : OpenClaim := { program := "ytdkhcplnoomcbaagreatdoor", sum := "b34890645c037df689c3531373cdf66855b689dc400a81bc8fe20f406dc61f9e", func := "planisphere/planispherelaw22.PlateBack", spec := "plateBack", unfollowed := true, recurses := true, named := ["planisphere/plate.powers", "math/bits.overflowError"], apart := false, laid := [("planisphere/plate.powers", laid_planisphere_plate_powers)], narrowed := true }
def PlateBackUptoSaid : Prop := plateBackUptoRow.holds Tryz.pinned (OpenSpec.upto plateBackSpec)

/-- 'planispherelaw22.PlateLeast', WHERE WHAT IT READS IS OF BULK AT MOST 1048576: true; the input reads as it did. -/
def plateLeastUptoRow : OpenClaim := { program := "ytdkhcplnoomcbaagreatdoor", sum := "b34890645c037df689c3531373cdf66855b689dc400a81bc8fe20f406dc61f9e", func := "planisphere/planispherelaw22.PlateLeast", spec := "plateLeast", unfollowed := true, recurses := true, named := ["planisphere/plate.powers", "math/bits.overflowError"], apart := false, laid := [("planisphere/plate.powers", laid_planisphere_plate_powers)], narrowed := true }
def PlateLeastUptoSaid : Prop := plateLeastUptoRow.holds Tryz.pinned (OpenSpec.upto plateLeastSpec)

/-- 'planispherelaw22.PlateExact', WHERE WHAT IT READS IS OF BULK AT MOST 1048576: true; the input reads as it did. -/
def plateExactUptoRow : OpenClaim := { program := "ytdkhcplnoomcbaagreatdoor", sum := "b34890645c037df689c3531373cdf66855b689dc400a81bc8fe20f406dc61f9e", func := "planisphere/planispherelaw22.PlateExact", spec := "plateExact", unfollowed := true, recurses := true, named := ["planisphere/plate.powers", "math/bits.overflowError"], apart := false, laid := [("planisphere/plate.powers", laid_planisphere_plate_powers)], narrowed := true }
def PlateExactUptoSaid : Prop := plateExactUptoRow.holds Tryz.pinned (OpenSpec.upto plateExactSpec)

end Rows
end Go.Proofs.YtdkhcplnoomcbaaGreatDoor
