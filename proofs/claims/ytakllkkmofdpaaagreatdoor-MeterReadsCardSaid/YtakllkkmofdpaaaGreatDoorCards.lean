/-
  DERIVED. GIVEN WITH THE SEED: THE CARDS: each row of YtakllkkmofdpaaaGreatDoorRows.lean that lists a variable, with what it lists TIED to the program's text (the seventh form; the later family's looks); each row that meets fmt, with fmt's text TOLD by the authors' own Lean function (tested against real Go, not proved from fmt's source: count such statements apart). THE CARD IS WHAT COUNTS. Prove the row's statement (the work); the ties are given (YtakllkkmofdpaaaGreatDoorTie.lean); close each card by the builder's one call (the guide's Derived/Test/ToyasCard.lean, 'card_holds'). Laid BY PROGRAM, IN A SANDBOX (cutbox-door.mjs). By AI agents, Wed Nov 11 2026. No macro, syntax, notation, axiom, sorry.
-/
import Derived.Test.YtakllkkmofdpaaaGreatDoorRows
import GoSem.ClaimSeven
namespace Go.Proofs.YtakllkkmofdpaaaGreatDoor
namespace Rows

/-- THE TIED CARD OF 'gridhallkeep2.BalanceOperates'. -/
def balanceOperatesCard : Claim7 := { stood := { row := balanceOperatesRow, standIns := [], harness := (true, "7cd11c7f5194bf93cf32fc183df484a0ed40d8594fac228b1136ae523437f796"), looks := true }, kinds := [], alts := [], laidByText := true, laidKinds := [.data, .data, .data, .sentinel, .sentinel], laidTests := true, laidLooks := .later }
def BalanceOperatesCardSaid : Prop := Claim7.holds Tryz.pinned (.plain (OpenSpec.ofChange balanceOperatesSpec)) balanceOperatesCard

/-- THE TIED CARD OF 'gridhallkeep2.BalanceParts'. -/
def balancePartsCard : Claim7 := { stood := { row := balancePartsRow, standIns := [], harness := (true, "7cd11c7f5194bf93cf32fc183df484a0ed40d8594fac228b1136ae523437f796"), looks := true }, kinds := [], alts := [], laidByText := true, laidKinds := [.data, .data, .data, .sentinel, .sentinel], laidTests := true, laidLooks := .later }
def BalancePartsCardSaid : Prop := Claim7.holds Tryz.pinned (.plain (OpenSpec.ofChange balancePartsSpec)) balancePartsCard

/-- THE TIED CARD OF 'gridhallkeep2.BalanceSums'. -/
def balanceSumsCard : Claim7 := { stood := { row := balanceSumsRow, standIns := [], harness := (true, "7cd11c7f5194bf93cf32fc183df484a0ed40d8594fac228b1136ae523437f796"), looks := true }, kinds := [], alts := [], laidByText := true, laidKinds := [.data, .data, .data, .sentinel, .sentinel], laidTests := true, laidLooks := .later }
def BalanceSumsCardSaid : Prop := Claim7.holds Tryz.pinned (.plain (OpenSpec.ofChange balanceSumsSpec)) balanceSumsCard

/-- THE TIED CARD OF 'gridhallkeep2.ObserveCritical'. -/
def observeCriticalCard : Claim7 := { stood := { row := observeCriticalRow, standIns := [], harness := (true, "7cd11c7f5194bf93cf32fc183df484a0ed40d8594fac228b1136ae523437f796"), looks := true }, kinds := [], alts := [], laidByText := true, laidKinds := [.data, .data, .data, .sentinel, .sentinel], laidTests := true, laidLooks := .later }
def ObserveCriticalCardSaid : Prop := Claim7.holds Tryz.pinned (.plain (OpenSpec.ofChange observeCriticalSpec)) observeCriticalCard

/-- THE TIED CARD OF 'gridhallkeep2.ObserveMore'. -/
def observeMoreCard : Claim7 := { stood := { row := observeMoreRow, standIns := [], harness := (true, "7cd11c7f5194bf93cf32fc183df484a0ed40d8594fac228b1136ae523437f796"), looks := true }, kinds := [], alts := [], laidByText := true, laidKinds := [.data, .data, .data, .sentinel, .sentinel], laidTests := true, laidLooks := .later }
def ObserveMoreCardSaid : Prop := Claim7.holds Tryz.pinned (.plain (OpenSpec.ofChange observeMoreSpec)) observeMoreCard

/-- THE TIED CARD OF 'gridhallkeep2.ObserveAreas'. -/
def observeAreasCard : Claim7 := { stood := { row := observeAreasRow, standIns := [], harness := (true, "7cd11c7f5194bf93cf32fc183df484a0ed40d8594fac228b1136ae523437f796"), looks := true }, kinds := [], alts := [], laidByText := true, laidKinds := [.data, .data, .data, .sentinel, .sentinel], laidTests := true, laidLooks := .later }
def ObserveAreasCardSaid : Prop := Claim7.holds Tryz.pinned (.plain (OpenSpec.ofChange observeAreasSpec)) observeAreasCard

/-- THE TIED CARD OF 'gridhallkeep2.MeterReads'. -/
def meterReadsCard : Claim7 := { stood := { row := meterReadsRow, standIns := [], harness := (true, "7cd11c7f5194bf93cf32fc183df484a0ed40d8594fac228b1136ae523437f796"), looks := true }, kinds := [], alts := [], laidByText := true, laidKinds := [.data, .data, .data, .sentinel, .sentinel], laidTests := true, laidLooks := .later }
def MeterReadsCardSaid : Prop := Claim7.holds Tryz.pinned (.plain (OpenSpec.ofChange meterReadsSpec)) meterReadsCard

/-- THE TIED CARD OF 'gridhallkeep2.MeterSums'. -/
def meterSumsCard : Claim7 := { stood := { row := meterSumsRow, standIns := [], harness := (true, "7cd11c7f5194bf93cf32fc183df484a0ed40d8594fac228b1136ae523437f796"), looks := true }, kinds := [], alts := [], laidByText := true, laidKinds := [.data, .data, .data, .sentinel, .sentinel], laidTests := true, laidLooks := .later }
def MeterSumsCardSaid : Prop := Claim7.holds Tryz.pinned (.plain (OpenSpec.ofChange meterSumsSpec)) meterSumsCard

/-- THE TIED CARD OF 'gridhallkeep2.RestoreAdds'. -/
def restoreAddsCard : Claim7 := { stood := { row := restoreAddsRow, standIns := [], harness := (true, "7cd11c7f5194bf93cf32fc183df484a0ed40d8594fac228b1136ae523437f796"), looks := true }, kinds := [], alts := [], laidByText := true, laidKinds := [.data, .data, .data, .sentinel, .sentinel], laidTests := true, laidLooks := .later }
def RestoreAddsCardSaid : Prop := Claim7.holds Tryz.pinned (.plain (OpenSpec.ofChange restoreAddsSpec)) restoreAddsCard

/-- THE TIED CARD OF 'gridhallkeep2.RestoreNone'. -/
def restoreNoneCard : Claim7 := { stood := { row := restoreNoneRow, standIns := [], harness := (true, "7cd11c7f5194bf93cf32fc183df484a0ed40d8594fac228b1136ae523437f796"), looks := true }, kinds := [], alts := [], laidByText := true, laidKinds := [.data, .data, .data, .sentinel, .sentinel], laidTests := true, laidLooks := .later }
def RestoreNoneCardSaid : Prop := Claim7.holds Tryz.pinned (.plain (OpenSpec.ofChange restoreNoneSpec)) restoreNoneCard

/-- THE TIED CARD OF 'gridhallkeep2.RestoreFirst'. -/
def restoreFirstCard : Claim7 := { stood := { row := restoreFirstRow, standIns := [], harness := (true, "7cd11c7f5194bf93cf32fc183df484a0ed40d8594fac228b1136ae523437f796"), looks := true }, kinds := [], alts := [], laidByText := true, laidKinds := [.data, .data, .data, .sentinel, .sentinel], laidTests := true, laidLooks := .later }
def RestoreFirstCardSaid : Prop := Claim7.holds Tryz.pinned (.plain (OpenSpec.ofChange restoreFirstSpec)) restoreFirstCard

/-- THE SECOND FORM's CARD OF 'gridhallkeep2.BalanceOperates'. -/
def balanceOperatesUptoCard : Claim7 := { stood := { row := balanceOperatesUptoRow, standIns := [], harness := (true, "7cd11c7f5194bf93cf32fc183df484a0ed40d8594fac228b1136ae523437f796"), looks := true }, kinds := [], alts := [], laidByText := true, laidKinds := [.data, .data, .data, .sentinel, .sentinel], laidTests := true, laidLooks := .later }
def BalanceOperatesUptoCardSaid : Prop := Claim7.holds Tryz.pinned (.plain (OpenSpec.upto balanceOperatesSpec)) balanceOperatesUptoCard

/-- THE SECOND FORM's CARD OF 'gridhallkeep2.BalanceParts'. -/
def balancePartsUptoCard : Claim7 := { stood := { row := balancePartsUptoRow, standIns := [], harness := (true, "7cd11c7f5194bf93cf32fc183df484a0ed40d8594fac228b1136ae523437f796"), looks := true }, kinds := [], alts := [], laidByText := true, laidKinds := [.data, .data, .data, .sentinel, .sentinel], laidTests := true, laidLooks := .later }
def BalancePartsUptoCardSaid : Prop := Claim7.holds Tryz.pinned (.plain (OpenSpec.upto balancePartsSpec)) balancePartsUptoCard

/-- THE SECOND FORM's CARD OF 'gridhallkeep2.BalanceSums'. -/
def balanceSumsUptoCard : Claim7 := { stood := { row := balanceSumsUptoRow, standIns := [], harness := (true, "7cd11c7f5194bf93cf32fc183df484a0ed40d8594fac228b1136ae523437f796"), looks := true }, kinds := [], alts := [], laidByText := true, laidKinds := [.data, .data, .data, .sentinel, .sentinel], laidTests := true, laidLooks := .later }
def BalanceSumsUptoCardSaid : Prop := Claim7.holds Tryz.pinned (.plain (OpenSpec.upto balanceSumsSpec)) balanceSumsUptoCard

/-- THE SECOND FORM's CARD OF 'gridhallkeep2.ObserveCritical'. -/
def observeCriticalUptoCard : Claim7 := { stood := { row := observeCriticalUptoRow, standIns := [], harness := (true, "7cd11c7f5194bf93cf32fc183df484a0ed40d8594fac228b1136ae523437f796"), looks := true }, kinds := [], alts := [], laidByText := true, laidKinds := [.data, .data, .data, .sentinel, .sentinel], laidTests := true, laidLooks := .later }
def ObserveCriticalUptoCardSaid : Prop := Claim7.holds Tryz.pinned (.plain (OpenSpec.upto observeCriticalSpec)) observeCriticalUptoCard

/-- THE SECOND FORM's CARD OF 'gridhallkeep2.ObserveMore'. -/
def observeMoreUptoCard : Claim7 := { stood := { row := observeMoreUptoRow, standIns := [], harness := (true, "7cd11c7f5194bf93cf32fc183df484a0ed40d8594fac228b1136ae523437f796"), looks := true }, kinds := [], alts := [], laidByText := true, laidKinds := [.data, .data, .data, .sentinel, .sentinel], laidTests := true, laidLooks := .later }
def ObserveMoreUptoCardSaid : Prop := Claim7.holds Tryz.pinned (.plain (OpenSpec.upto observeMoreSpec)) observeMoreUptoCard

/-- THE SECOND FORM's CARD OF 'gridhallkeep2.ObserveAreas'. -/
def observeAreasUptoCard : Claim7 := { stood := { row := observeAreasUptoRow, standIns := [], harness := (true, "7cd11c7f5194bf93cf32fc183df484a0ed40d8594fac228b1136ae523437f796"), looks := true }, kinds := [], alts := [], laidByText := true, laidKinds := [.data, .data, .data, .sentinel, .sentinel], laidTests := true, laidLooks := .later }
def ObserveAreasUptoCardSaid : Prop := Claim7.holds Tryz.pinned (.plain (OpenSpec.upto observeAreasSpec)) observeAreasUptoCard

/-- THE SECOND FORM's CARD OF 'gridhallkeep2.MeterReads'. -/
def meterReadsUptoCard : Claim7 := { stood := { row := meterReadsUptoRow, standIns := [], harness := (true, "7cd11c7f5194bf93cf32fc183df484a0ed40d8594fac228b1136ae523437f796"), looks := true }, kinds := [], alts := [], laidByText := true, laidKinds := [.data, .data, .data, .sentinel, .sentinel], laidTests := true, laidLooks := .later }
def MeterReadsUptoCardSaid : Prop := Claim7.holds Tryz.pinned (.plain (OpenSpec.upto meterReadsSpec)) meterReadsUptoCard

/-- THE SECOND FORM's CARD OF 'gridhallkeep2.MeterSums'. -/
def meterSumsUptoCard : Claim7 := { stood := { row := meterSumsUptoRow, standIns := [], harness := (true, "7cd11c7f5194bf93cf32fc183df484a0ed40d8594fac228b1136ae523437f796"), looks := true }, kinds := [], alts := [], laidByText := true, laidKinds := [.data, .data, .data, .sentinel, .sentinel], laidTests := true, laidLooks := .later }
def MeterSumsUptoCardSaid : Prop := Claim7.holds Tryz.pinned (.plain (OpenSpec.upto meterSumsSpec)) meterSumsUptoCard

/-- THE SECOND FORM's CARD OF 'gridhallkeep2.RestoreAdds'. -/
def restoreAddsUptoCard : Claim7 := { stood := { row := restoreAddsUptoRow, standIns := [], harness := (true, "7cd11c7f5194bf93cf32fc183df484a0ed40d8594fac228b1136ae523437f796"), looks := true }, kinds := [], alts := [], laidByText := true, laidKinds := [.data, .data, .data, .sentinel, .sentinel], laidTests := true, laidLooks := .later }
def RestoreAddsUptoCardSaid : Prop := Claim7.holds Tryz.pinned (.plain (OpenSpec.upto restoreAddsSpec)) restoreAddsUptoCard

/-- THE SECOND FORM's CARD OF 'gridhallkeep2.RestoreNone'. -/
def restoreNoneUptoCard : Claim7 := { stood := { row := restoreNoneUptoRow, standIns := [], harness := (true, "7cd11c7f5194bf93cf32fc183df484a0ed40d8594fac228b1136ae523437f796"), looks := true }, kinds := [], alts := [], laidByText := true, laidKinds := [.data, .data, .data, .sentinel, .sentinel], laidTests := true, laidLooks := .later }
def RestoreNoneUptoCardSaid : Prop := Claim7.holds Tryz.pinned (.plain (OpenSpec.upto restoreNoneSpec)) restoreNoneUptoCard

/-- THE SECOND FORM's CARD OF 'gridhallkeep2.RestoreFirst'. -/
def restoreFirstUptoCard : Claim7 := { stood := { row := restoreFirstUptoRow, standIns := [], harness := (true, "7cd11c7f5194bf93cf32fc183df484a0ed40d8594fac228b1136ae523437f796"), looks := true }, kinds := [], alts := [], laidByText := true, laidKinds := [.data, .data, .data, .sentinel, .sentinel], laidTests := true, laidLooks := .later }
def RestoreFirstUptoCardSaid : Prop := Claim7.holds Tryz.pinned (.plain (OpenSpec.upto restoreFirstSpec)) restoreFirstUptoCard
end Rows
end Go.Proofs.YtakllkkmofdpaaaGreatDoor
