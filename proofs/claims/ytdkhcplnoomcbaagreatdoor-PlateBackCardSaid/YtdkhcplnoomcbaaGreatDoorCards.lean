/-
  DERIVED. GIVEN WITH THE SEED: THE CARDS: each row of YtdkhcplnoomcbaaGreatDoorRows.lean that lists a variable, with what it lists TIED to the program's text (the seventh form; the later family's looks); each row that meets fmt, with fmt's text TOLD by the authors' own Lean function (tested against real Go, not proved from fmt's source: count such statements apart). THE CARD IS WHAT COUNTS. Prove the row's statement (the work); the ties are given (YtdkhcplnoomcbaaGreatDoorTie.lean); close each card by the builder's one call (the guide's Derived/Test/ToyasCard.lean, 'card_holds'). Laid BY PROGRAM, IN A SANDBOX (cutbox-door.mjs). By AI agents, Wed Nov 11 2026. No macro, syntax, notation, axiom, sorry.
-/
import Derived.Test.YtdkhcplnoomcbaaGreatDoorRows
import GoSem.ClaimSeven
namespace Go.Proofs.YtdkhcplnoomcbaaGreatDoor
namespace Rows

/-- THE TIED CARD OF 'planispherelaw22.PlateNames'. -/
def plateNamesCard : Claim7 := { stood := { row := plateNamesRow, standIns := [], harness := (true, "fd4058b48bbbb7d9d1ea399a2d11b88e7f06ed222c0656b430d9cb0250db71de"), looks := true }, kinds := [], alts := [], laidByText := true, laidKinds := [.data], laidTests := true, laidLooks := .later }
def PlateNamesCardSaid : Prop := Claim7.holds Tryz.pinned (.plain (OpenSpec.ofChange plateNamesSpec)) plateNamesCard

/-- THE TIED CARD OF 'planispherelaw22.PlateBack'. -/
def plateBackCard : Claim7 := { stood := { row := plateBackRow, standIns := [], harness := (true, "fd4058b48bbbb7d9d1ea399a2d11b88e7f06ed222c0656b430d9cb0250db71de"), looks := true }, kinds := [], alts := [], laidByText := true, laidKinds := [.data], laidTests := true, laidLooks := .later }
def PlateBackCardSaid : Prop := Claim7.holds Tryz.pinned (.plain (OpenSpec.ofChange plateBackSpec)) plateBackCard

/-- THE TIED CARD OF 'planispherelaw22.PlateLeast'. -/
def plateLeastCard : Claim7 := { stood := { row := plateLeastRow, standIns := [], harness := (true, "fd4058b48bbbb7d9d1ea399a2d11b88e7f06ed222c0656b430d9cb0250db71de"), looks := true }, kinds := [], alts := [], laidByText := true, laidKinds := [.data], laidTests := true, laidLooks := .later }
def PlateLeastCardSaid : Prop := Claim7.holds Tryz.pinned (.plain (OpenSpec.ofChange plateLeastSpec)) plateLeastCard

/-- THE TIED CARD OF 'planispherelaw22.PlateExact'. -/
def plateExactCard : Claim7 := { stood := { row := plateExactRow, standIns := [], harness := (true, "fd4058b48bbbb7d9d1ea399a2d11b88e7f06ed222c0656b430d9cb0250db71de"), looks := true }, kinds := [], alts := [], laidByText := true, laidKinds := [.data], laidTests := true, laidLooks := .later }
def PlateExactCardSaid : Prop := Claim7.holds Tryz.pinned (.plain (OpenSpec.ofChange plateExactSpec)) plateExactCard

/-- THE SECOND FORM's CARD OF 'planispherelaw22.PlateNames'. -/
def plateNamesUptoCard : Claim7 := { stood := { row := plateNamesUptoRow, standIns := [], harness := (true, "fd4058b48bbbb7d9d1ea399a2d11b88e7f06ed222c0656b430d9cb0250db71de"), looks := true }, kinds := [], alts := [], laidByText := true, laidKinds := [.data], laidTests := true, laidLooks := .later }
def PlateNamesUptoCardSaid : Prop := Claim7.holds Tryz.pinned (.plain (OpenSpec.upto plateNamesSpec)) plateNamesUptoCard

/-- THE SECOND FORM's CARD OF 'planispherelaw22.PlateBack'. -/
def plateBackUptoCard : Claim7 := { stood := { row := plateBackUptoRow, standIns := [], harness := (true, "fd4058b48bbbb7d9d1ea399a2d11b88e7f06ed222c0656b430d9cb0250db71de"), looks := true }, kinds := [], alts := [], laidByText := true, laidKinds := [.data], laidTests := true, laidLooks := .later }
def PlateBackUptoCardSaid : Prop := Claim7.holds Tryz.pinned (.plain (OpenSpec.upto plateBackSpec)) plateBackUptoCard

/-- THE SECOND FORM's CARD OF 'planispherelaw22.PlateLeast'. -/
def plateLeastUptoCard : Claim7 := { stood := { row := plateLeastUptoRow, standIns := [], harness := (true, "fd4058b48bbbb7d9d1ea399a2d11b88e7f06ed222c0656b430d9cb0250db71de"), looks := true }, kinds := [], alts := [], laidByText := true, laidKinds := [.data], laidTests := true, laidLooks := .later }
def PlateLeastUptoCardSaid : Prop := Claim7.holds Tryz.pinned (.plain (OpenSpec.upto plateLeastSpec)) plateLeastUptoCard

/-- THE SECOND FORM's CARD OF 'planispherelaw22.PlateExact'. -/
def plateExactUptoCard : Claim7 := { stood := { row := plateExactUptoRow, standIns := [], harness := (true, "fd4058b48bbbb7d9d1ea399a2d11b88e7f06ed222c0656b430d9cb0250db71de"), looks := true }, kinds := [], alts := [], laidByText := true, laidKinds := [.data], laidTests := true, laidLooks := .later }
def PlateExactUptoCardSaid : Prop := Claim7.holds Tryz.pinned (.plain (OpenSpec.upto plateExactSpec)) plateExactUptoCard
end Rows
end Go.Proofs.YtdkhcplnoomcbaaGreatDoor
