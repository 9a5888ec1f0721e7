/-
  DERIVED. GIVEN WITH THE SEED: THE CARDS: each row of YtaanoljfhnfjoaaGreatDoorRows.lean that lists a variable, with what it lists TIED to the program's text (the seventh form; the later family's looks); each row that meets fmt, with fmt's text TOLD by the authors' own Lean function (tested against real Go, not proved from fmt's source: count such statements apart). THE CARD IS WHAT COUNTS. Prove the row's statement (the work); the ties are given (YtaanoljfhnfjoaaGreatDoorTie.lean); close each card by the builder's one call (the guide's Derived/Test/ToyasCard.lean, 'card_holds'). Laid BY PROGRAM, IN A SANDBOX (cutbox-door.mjs). By AI agents, Wed Nov 11 2026. No macro, syntax, notation, axiom, sorry.
-/
import Derived.Test.YtaanoljfhnfjoaaGreatDoorRows
import GoSem.ClaimSeven
namespace Go.Proofs.YtaanoljfhnfjoaaGreatDoor
namespace Rows

/-- THE TIED CARD OF 'gridhallkeep2.RelaylangPrints'. -/
def relaylangPrintsCard : Claim7 := { stood := { row := relaylangPrintsRow, standIns := [], harness := (true, "60c73785e5b26cbf7833bfd95d5ff9ab47204103a46adb8c04b3e79787cf8188"), looks := true }, kinds := [], alts := [], laidByText := true, laidKinds := [.data, .data, .data, .data, .sentinel, .sentinel, .pinned], laidTests := true, laidLooks := .later }
def RelaylangPrintsCardSaid : Prop := Claim7.holds Tryz.pinned (.plain (OpenSpec.ofChange relaylangPrintsSpec)) relaylangPrintsCard

/-- THE TIED CARD OF 'gridhallkeep2.RelaylangParses'. -/
def relaylangParsesCard : Claim7 := { stood := { row := relaylangParsesRow, standIns := [], harness := (true, "60c73785e5b26cbf7833bfd95d5ff9ab47204103a46adb8c04b3e79787cf8188"), looks := true }, kinds := [], alts := [], laidByText := true, laidKinds := [.data, .data, .data, .data, .sentinel, .sentinel, .pinned], laidTests := true, laidLooks := .later }
def RelaylangParsesCardSaid : Prop := Claim7.holds Tryz.pinned (.plain (OpenSpec.ofChange relaylangParsesSpec)) relaylangParsesCard

/-- THE TIED CARD OF 'gridhallkeep2.RelaylangOrders'. -/
def relaylangOrdersCard : Claim7 := { stood := { row := relaylangOrdersRow, standIns := [], harness := (true, "60c73785e5b26cbf7833bfd95d5ff9ab47204103a46adb8c04b3e79787cf8188"), looks := true }, kinds := [], alts := [], laidByText := true, laidKinds := [.data, .data, .data, .data, .sentinel, .sentinel, .pinned], laidTests := true, laidLooks := .later }
def RelaylangOrdersCardSaid : Prop := Claim7.holds Tryz.pinned (.plain (OpenSpec.ofChange relaylangOrdersSpec)) relaylangOrdersCard

/-- THE TIED CARD OF 'gridhallkeep2.RelaylangInputs'. -/
def relaylangInputsCard : Claim7 := { stood := { row := relaylangInputsRow, standIns := [], harness := (true, "60c73785e5b26cbf7833bfd95d5ff9ab47204103a46adb8c04b3e79787cf8188"), looks := true }, kinds := [], alts := [], laidByText := true, laidKinds := [.data, .data, .data, .data, .sentinel, .sentinel, .pinned], laidTests := true, laidLooks := .later }
def RelaylangInputsCardSaid : Prop := Claim7.holds Tryz.pinned (.plain (OpenSpec.ofChange relaylangInputsSpec)) relaylangInputsCard

/-- THE SECOND FORM's CARD OF 'gridhallkeep2.RelaylangPrints'. -/
def relaylangPrintsUptoCard : Claim7 := { stood := { row := relaylangPrintsUptoRow, standIns := [], harness := (true, "60c73785e5b26cbf7833bfd95d5ff9ab47204103a46adb8c04b3e79787cf8188"), looks := true }, kinds := [], alts := [], laidByText := true, laidKinds := [.data, .data, .data, .data, .sentinel, .sentinel, .pinned], laidTests := true, laidLooks := .later }
def RelaylangPrintsUptoCardSaid : Prop := Claim7.holds Tryz.pinned (.plain (OpenSpec.upto relaylangPrintsSpec)) relaylangPrintsUptoCard

/-- THE SECOND FORM's CARD OF 'gridhallkeep2.RelaylangParses'. -/
def relaylangParsesUptoCard : Claim7 := { stood := { row := relaylangParsesUptoRow, standIns := [], harness := (true, "60c73785e5b26cbf7833bfd95d5ff9ab47204103a46adb8c04b3e79787cf8188"), looks := true }, kinds := [], alts := [], laidByText := true, laidKinds := [.data, .data, .data, .data, .sentinel, .sentinel, .pinned], laidTests := true, laidLooks := .later }
def RelaylangParsesUptoCardSaid : Prop := Claim7.holds Tryz.pinned (.plain (OpenSpec.upto relaylangParsesSpec)) relaylangParsesUptoCard

/-- THE SECOND FORM's CARD OF 'gridhallkeep2.RelaylangOrders'. -/
def relaylangOrdersUptoCard : Claim7 := { stood := { row := relaylangOrdersUptoRow, standIns := [], harness := (true, "60c73785e5b26cbf7833bfd95d5ff9ab47204103a46adb8c04b3e79787cf8188"), looks := true }, kinds := [], alts := [], laidByText := true, laidKinds := [.data, .data, .data, .data, .sentinel, .sentinel, .pinned], laidTests := true, laidLooks := .later }
def RelaylangOrdersUptoCardSaid : Prop := Claim7.holds Tryz.pinned (.plain (OpenSpec.upto relaylangOrdersSpec)) relaylangOrdersUptoCard

/-- THE SECOND FORM's CARD OF 'gridhallkeep2.RelaylangInputs'. -/
def relaylangInputsUptoCard : Claim7 := { stood := { row := relaylangInputsUptoRow, standIns := [], harness := (true, "60c73785e5b26cbf7833bfd95d5ff9ab47204103a46adb8c04b3e79787cf8188"), looks := true }, kinds := [], alts := [], laidByText := true, laidKinds := [.data, .data, .data, .data, .sentinel, .sentinel, .pinned], laidTests := true, laidLooks := .later }
def RelaylangInputsUptoCardSaid : Prop := Claim7.holds Tryz.pinned (.plain (OpenSpec.upto relaylangInputsSpec)) relaylangInputsUptoCard
end Rows
end Go.Proofs.YtaanoljfhnfjoaaGreatDoor
