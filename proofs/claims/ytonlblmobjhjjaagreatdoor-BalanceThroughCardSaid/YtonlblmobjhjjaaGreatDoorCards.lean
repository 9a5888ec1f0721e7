/-
  DERIVED. GIVEN WITH THE SEED: THE CARDS: each row of YtonlblmobjhjjaaGreatDoorRows.lean that lists a variable, with what it lists TIED to the program's text (the seventh form; the later family's looks); each row that meets fmt, with fmt's text TOLD by the authors' own Lean function (tested against real Go, not proved from fmt's source: count such statements apart). THE CARD IS WHAT COUNTS. Prove the row's statement (the work); the ties are given (YtonlblmobjhjjaaGreatDoorTie.lean); close each card by the builder's one call (the guide's Derived/Test/ToyasCard.lean, 'card_holds'). Laid BY PROGRAM, IN A SANDBOX (cutbox-door.mjs). By AI agents, Wed Nov 11 2026. No macro, syntax, notation, axiom, sorry.
-/
import Derived.Test.YtonlblmobjhjjaaGreatDoorRows
import GoSem.ClaimSeven
namespace Go.Proofs.YtonlblmobjhjjaaGreatDoor
namespace Rows

/-- THE TIED CARD OF 'gridhallkeep2.FaultStronger'. -/
def faultStrongerCard : Claim7 := { stood := { row := faultStrongerRow, standIns := [], harness := (true, "2f881f9a87db2170264d8f1323f6fa0f9bb16c9172e81407e792d401affb71ce"), looks := true }, kinds := [], alts := [], laidByText := true, laidKinds := [.data, .data, .data, .sentinel, .sentinel], laidTests := true, laidLooks := .later }
def FaultStrongerCardSaid : Prop := Claim7.holds Tryz.pinned (.plain (OpenSpec.ofChange faultStrongerSpec)) faultStrongerCard

/-- THE TIED CARD OF 'gridhallkeep2.FaultVoltages'. -/
def faultVoltagesCard : Claim7 := { stood := { row := faultVoltagesRow, standIns := [], harness := (true, "2f881f9a87db2170264d8f1323f6fa0f9bb16c9172e81407e792d401affb71ce"), looks := true }, kinds := [], alts := [], laidByText := true, laidKinds := [.data, .data, .data, .sentinel, .sentinel], laidTests := true, laidLooks := .later }
def FaultVoltagesCardSaid : Prop := Claim7.holds Tryz.pinned (.plain (OpenSpec.ofChange faultVoltagesSpec)) faultVoltagesCard

/-- THE TIED CARD OF 'gridhallkeep2.BalanceThrough'. -/
def balanceThroughCard : Claim7 := { stood := { row := balanceThroughRow, standIns := [], harness := (true, "2f881f9a87db2170264d8f1323f6fa0f9bb16c9172e81407e792d401affb71ce"), looks := true }, kinds := [], alts := [], laidByText := true, laidKinds := [.data, .data, .data, .sentinel, .sentinel], laidTests := true, laidLooks := .later }
def BalanceThroughCardSaid : Prop := Claim7.holds Tryz.pinned (.plain (OpenSpec.ofChange balanceThroughSpec)) balanceThroughCard

/-- THE TIED CARD OF 'gridhallkeep2.FaultBalances'. -/
def faultBalancesCard : Claim7 := { stood := { row := faultBalancesRow, standIns := [], harness := (true, "2f881f9a87db2170264d8f1323f6fa0f9bb16c9172e81407e792d401affb71ce"), looks := true }, kinds := [], alts := [], laidByText := true, laidKinds := [.data, .data, .data, .sentinel, .sentinel], laidTests := true, laidLooks := .later }
def FaultBalancesCardSaid : Prop := Claim7.holds Tryz.pinned (.plain (OpenSpec.ofChange faultBalancesSpec)) faultBalancesCard

/-- THE TIED CARD OF 'gridhallkeep2.FaultTotals'. -/
def faultTotalsCard : Claim7 := { stood := { row := faultTotalsRow, standIns := [], harness := (true, "2f881f9a87db2170264d8f1323f6fa0f9bb16c9172e81407e792d401affb71ce"), looks := true }, kinds := [], alts := [], laidByText := true, laidKinds := [.data, .data, .data, .sentinel, .sentinel], laidTests := true, laidLooks := .later }
def FaultTotalsCardSaid : Prop := Claim7.holds Tryz.pinned (.plain (OpenSpec.ofChange faultTotalsSpec)) faultTotalsCard

/-- THE SECOND FORM's CARD OF 'gridhallkeep2.FaultStronger'. -/
def faultStrongerUptoCard : Claim7 := { stood := { row := faultStrongerUptoRow, standIns := [], harness := (true, "2f881f9a87db2170264d8f1323f6fa0f9bb16c9172e81407e792d401affb71ce"), looks := true }, kinds := [], alts := [], laidByText := true, laidKinds := [.data, .data, .data, .sentinel, .sentinel], laidTests := true, laidLooks := .later }
def FaultStrongerUptoCardSaid : Prop := Claim7.holds Tryz.pinned (.plain (OpenSpec.upto faultStrongerSpec)) faultStrongerUptoCard

/-- THE SECOND FORM's CARD OF 'gridhallkeep2.FaultVoltages'. -/
def faultVoltagesUptoCard : Claim7 := { stood := { row := faultVoltagesUptoRow, standIns := [], harness := (true, "2f881f9a87db2170264d8f1323f6fa0f9bb16c9172e81407e792d401affb71ce"), looks := true }, kinds := [], alts := [], laidByText := true, laidKinds := [.data, .data, .data, .sentinel, .sentinel], laidTests := true, laidLooks := .later }
def FaultVoltagesUptoCardSaid : Prop := Claim7.holds Tryz.pinned (.plain (OpenSpec.upto faultVoltagesSpec)) faultVoltagesUptoCard

/-- THE SECOND FORM's CARD OF 'gridhallkeep2.BalanceThrough'. -/
def balanceThroughUptoCard : Claim7 := { stood := { row := balanceThroughUptoRow, standIns := [], harness := (true, "2f881f9a87db2170264d8f1323f6fa0f9bb16c9172e81407e792d401affb71ce"), looks := true }, kinds := [], alts := [], laidByText := true, laidKinds := [.data, .data, .data, .sentinel, .sentinel], laidTests := true, laidLooks := .later }
def BalanceThroughUptoCardSaid : Prop := Claim7.holds Tryz.pinned (.plain (OpenSpec.upto balanceThroughSpec)) balanceThroughUptoCard

/-- THE SECOND FORM's CARD OF 'gridhallkeep2.FaultBalances'. -/
def faultBalancesUptoCard : Claim7 := { stood := { row := faultBalancesUptoRow, standIns := [], harness := (true, "2f881f9a87db2170264d8f1323f6fa0f9bb16c9172e81407e792d401affb71ce"), looks := true }, kinds := [], alts := [], laidByText := true, laidKinds := [.data, .data, .data, .sentinel, .sentinel], laidTests := true, laidLooks := .later }
def FaultBalancesUptoCardSaid : Prop := Claim7.holds Tryz.pinned (.plain (OpenSpec.upto faultBalancesSpec)) faultBalancesUptoCard

/-- THE SECOND FORM's CARD OF 'gridhallkeep2.FaultTotals'. -/
def faultTotalsUptoCard : Claim7 := { stood := { row := faultTotalsUptoRow, standIns := [], harness := (true, "2f881f9a87db2170264d8f1323f6fa0f9bb16c9172e81407e792d401affb71ce"), looks := true }, kinds := [], alts := [], laidByText := true, laidKinds := [.data, .data, .data, .sentinel, .sentinel], laidTests := true, laidLooks := .later }
def FaultTotalsUptoCardSaid : Prop := Claim7.holds Tryz.pinned (.plain (OpenSpec.upto faultTotalsSpec)) faultTotalsUptoCard
end Rows
end Go.Proofs.YtonlblmobjhjjaaGreatDoor
