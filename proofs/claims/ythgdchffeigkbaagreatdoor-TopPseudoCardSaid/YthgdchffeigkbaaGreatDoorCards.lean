/-
  DERIVED. GIVEN WITH THE SEED: THE CARDS: each row of YthgdchffeigkbaaGreatDoorRows.lean that lists a variable, with what it lists TIED to the program's text (the seventh form; the later family's looks); each row that meets fmt, with fmt's text TOLD by the authors' own Lean function (tested against real Go, not proved from fmt's source: count such statements apart). THE CARD IS WHAT COUNTS. Prove the row's statement (the work); the ties are given (YthgdchffeigkbaaGreatDoorTie.lean); close each card by the builder's one call (the guide's Derived/Test/ToyasCard.lean, 'card_holds'). Laid BY PROGRAM, IN A SANDBOX (cutbox-door.mjs). By AI agents, Wed Nov 11 2026. No macro, syntax, notation, axiom, sorry.
-/
import Derived.Test.YthgdchffeigkbaaGreatDoorRows
import GoSem.ClaimSeven
namespace Go.Proofs.YthgdchffeigkbaaGreatDoor
namespace Rows

/-- THE TIED CARD OF 'gridhalltop.TopEstimated'. -/
def topEstimatedCard : Claim7 := { stood := { row := topEstimatedRow, standIns := [], harness := (true, "46f6f235a91c592a7d4ba81642b18d9d511421fd6310b4e5d62350f925362646"), looks := true }, kinds := [], alts := [], laidByText := true, laidKinds := [.data, .data, .data, .sentinel, .sentinel], laidTests := true, laidLooks := .later }
def TopEstimatedCardSaid : Prop := Claim7.holds Tryz.pinned (.plain (OpenSpec.ofChange topEstimatedSpec)) topEstimatedCard

/-- THE TIED CARD OF 'gridhalltop.TopPseudo'. -/
def topPseudoCard : Claim7 := { stood := { row := topPseudoRow, standIns := [], harness := (true, "46f6f235a91c592a7d4ba81642b18d9d511421fd6310b4e5d62350f925362646"), looks := true }, kinds := [], alts := [], laidByText := true, laidKinds := [.data, .data, .data, .sentinel, .sentinel], laidTests := true, laidLooks := .later }
def TopPseudoCardSaid : Prop := Claim7.holds Tryz.pinned (.plain (OpenSpec.ofChange topPseudoSpec)) topPseudoCard

/-- THE TIED CARD OF 'gridhallkeep2.MeterFlows'. -/
def meterFlowsCard : Claim7 := { stood := { row := meterFlowsRow, standIns := [], harness := (true, "46f6f235a91c592a7d4ba81642b18d9d511421fd6310b4e5d62350f925362646"), looks := true }, kinds := [], alts := [], laidByText := true, laidKinds := [.data, .data, .data, .sentinel, .sentinel], laidTests := true, laidLooks := .later }
def MeterFlowsCardSaid : Prop := Claim7.holds Tryz.pinned (.plain (OpenSpec.ofChange meterFlowsSpec)) meterFlowsCard

/-- THE TIED CARD OF 'gridhallkeep2.EstimateWeights'. -/
def estimateWeightsCard : Claim7 := { stood := { row := estimateWeightsRow, standIns := [], harness := (true, "46f6f235a91c592a7d4ba81642b18d9d511421fd6310b4e5d62350f925362646"), looks := true }, kinds := [], alts := [], laidByText := true, laidKinds := [.data, .data, .data, .sentinel, .sentinel], laidTests := true, laidLooks := .later }
def EstimateWeightsCardSaid : Prop := Claim7.holds Tryz.pinned (.plain (OpenSpec.ofChange estimateWeightsSpec)) estimateWeightsCard

/-- THE TIED CARD OF 'gridhallkeep2.EstimateLeast'. -/
def estimateLeastCard : Claim7 := { stood := { row := estimateLeastRow, standIns := [], harness := (true, "46f6f235a91c592a7d4ba81642b18d9d511421fd6310b4e5d62350f925362646"), looks := true }, kinds := [], alts := [], laidByText := true, laidKinds := [.data, .data, .data, .sentinel, .sentinel], laidTests := true, laidLooks := .later }
def EstimateLeastCardSaid : Prop := Claim7.holds Tryz.pinned (.plain (OpenSpec.ofChange estimateLeastSpec)) estimateLeastCard

/-- THE TIED CARD OF 'gridhallkeep2.SuspectClean'. -/
def suspectCleanCard : Claim7 := { stood := { row := suspectCleanRow, standIns := [], harness := (true, "46f6f235a91c592a7d4ba81642b18d9d511421fd6310b4e5d62350f925362646"), looks := true }, kinds := [], alts := [], laidByText := true, laidKinds := [.data, .data, .data, .sentinel, .sentinel], laidTests := true, laidLooks := .later }
def SuspectCleanCardSaid : Prop := Claim7.holds Tryz.pinned (.plain (OpenSpec.ofChange suspectCleanSpec)) suspectCleanCard

/-- THE TIED CARD OF 'gridhallkeep2.EstimateExact'. -/
def estimateExactCard : Claim7 := { stood := { row := estimateExactRow, standIns := [], harness := (true, "46f6f235a91c592a7d4ba81642b18d9d511421fd6310b4e5d62350f925362646"), looks := true }, kinds := [], alts := [], laidByText := true, laidKinds := [.data, .data, .data, .sentinel, .sentinel], laidTests := true, laidLooks := .later }
def EstimateExactCardSaid : Prop := Claim7.holds Tryz.pinned (.plain (OpenSpec.ofChange estimateExactSpec)) estimateExactCard

/-- THE TIED CARD OF 'gridhallkeep2.EstimateGain'. -/
def estimateGainCard : Claim7 := { stood := { row := estimateGainRow, standIns := [], harness := (true, "46f6f235a91c592a7d4ba81642b18d9d511421fd6310b4e5d62350f925362646"), looks := true }, kinds := [], alts := [], laidByText := true, laidKinds := [.data, .data, .data, .sentinel, .sentinel], laidTests := true, laidLooks := .later }
def EstimateGainCardSaid : Prop := Claim7.holds Tryz.pinned (.plain (OpenSpec.ofChange estimateGainSpec)) estimateGainCard

/-- THE TIED CARD OF 'gridhallkeep2.SuspectNormal'. -/
def suspectNormalCard : Claim7 := { stood := { row := suspectNormalRow, standIns := [], harness := (true, "46f6f235a91c592a7d4ba81642b18d9d511421fd6310b4e5d62350f925362646"), looks := true }, kinds := [], alts := [], laidByText := true, laidKinds := [.data, .data, .data, .sentinel, .sentinel], laidTests := true, laidLooks := .later }
def SuspectNormalCardSaid : Prop := Claim7.holds Tryz.pinned (.plain (OpenSpec.ofChange suspectNormalSpec)) suspectNormalCard

/-- THE TIED CARD OF 'gridhallkeep2.SuspectSpread'. -/
def suspectSpreadCard : Claim7 := { stood := { row := suspectSpreadRow, standIns := [], harness := (true, "46f6f235a91c592a7d4ba81642b18d9d511421fd6310b4e5d62350f925362646"), looks := true }, kinds := [], alts := [], laidByText := true, laidKinds := [.data, .data, .data, .sentinel, .sentinel], laidTests := true, laidLooks := .later }
def SuspectSpreadCardSaid : Prop := Claim7.holds Tryz.pinned (.plain (OpenSpec.ofChange suspectSpreadSpec)) suspectSpreadCard

/-- THE TIED CARD OF 'gridhallkeep2.SuspectOne'. -/
def suspectOneCard : Claim7 := { stood := { row := suspectOneRow, standIns := [], harness := (true, "46f6f235a91c592a7d4ba81642b18d9d511421fd6310b4e5d62350f925362646"), looks := true }, kinds := [], alts := [], laidByText := true, laidKinds := [.data, .data, .data, .sentinel, .sentinel], laidTests := true, laidLooks := .later }
def SuspectOneCardSaid : Prop := Claim7.holds Tryz.pinned (.plain (OpenSpec.ofChange suspectOneSpec)) suspectOneCard

/-- THE TIED CARD OF 'gridhalltop.TopBadMeter'. -/
def topBadMeterCard : Claim7 := { stood := { row := topBadMeterRow, standIns := [], harness := (true, "46f6f235a91c592a7d4ba81642b18d9d511421fd6310b4e5d62350f925362646"), looks := true }, kinds := [], alts := [], laidByText := true, laidKinds := [.data, .data, .data, .sentinel, .sentinel], laidTests := true, laidLooks := .later }
def TopBadMeterCardSaid : Prop := Claim7.holds Tryz.pinned (.plain (OpenSpec.ofChange topBadMeterSpec)) topBadMeterCard

/-- THE SECOND FORM's CARD OF 'gridhalltop.TopEstimated'. -/
def topEstimatedUptoCard : Claim7 := { stood := { row := topEstimatedUptoRow, standIns := [], harness := (true, "46f6f235a91c592a7d4ba81642b18d9d511421fd6310b4e5d62350f925362646"), looks := true }, kinds := [], alts := [], laidByText := true, laidKinds := [.data, .data, .data, .sentinel, .sentinel], laidTests := true, laidLooks := .later }
def TopEstimatedUptoCardSaid : Prop := Claim7.holds Tryz.pinned (.plain (OpenSpec.upto topEstimatedSpec)) topEstimatedUptoCard

/-- THE SECOND FORM's CARD OF 'gridhalltop.TopPseudo'. -/
def topPseudoUptoCard : Claim7 := { stood := { row := topPseudoUptoRow, standIns := [], harness := (true, "46f6f235a91c592a7d4ba81642b18d9d511421fd6310b4e5d62350f925362646"), looks := true }, kinds := [], alts := [], laidByText := true, laidKinds := [.data, .data, .data, .sentinel, .sentinel], laidTests := true, laidLooks := .later }
def TopPseudoUptoCardSaid : Prop := Claim7.holds Tryz.pinned (.plain (OpenSpec.upto topPseudoSpec)) topPseudoUptoCard

/-- THE SECOND FORM's CARD OF 'gridhallkeep2.MeterFlows'. -/
def meterFlowsUptoCard : Claim7 := { stood := { row := meterFlowsUptoRow, standIns := [], harness := (true, "46f6f235a91c592a7d4ba81642b18d9d511421fd6310b4e5d62350f925362646"), looks := true }, kinds := [], alts := [], laidByText := true, laidKinds := [.data, .data, .data, .sentinel, .sentinel], laidTests := true, laidLooks := .later }
def MeterFlowsUptoCardSaid : Prop := Claim7.holds Tryz.pinned (.plain (OpenSpec.upto meterFlowsSpec)) meterFlowsUptoCard

/-- THE SECOND FORM's CARD OF 'gridhallkeep2.EstimateWeights'. -/
def estimateWeightsUptoCard : Claim7 := { stood := { row := estimateWeightsUptoRow, standIns := [], harness := (true, "46f6f235a91c592a7d4ba81642b18d9d511421fd6310b4e5d62350f925362646"), looks := true }, kinds := [], alts := [], laidByText := true, laidKinds := [.data, .data, .data, .sentinel, .sentinel], laidTests := true, laidLooks := .later }
def EstimateWeightsUptoCardSaid : Prop := Claim7.holds Tryz.pinned (.plain (OpenSpec.upto estimateWeightsSpec)) estimateWeightsUptoCard

/-- THE SECOND FORM's CARD OF 'gridhallkeep2.EstimateLeast'. -/
def estimateLeastUptoCard : Claim7 := { stood := { row := estimateLeastUptoRow, standIns := [], harness := (true, "46f6f235a91c592a7d4ba81642b18d9d511421fd6310b4e5d62350f925362646"), looks := true }, kinds := [], alts := [], laidByText := true, laidKinds := [.data, .data, .data, .sentinel, .sentinel], laidTests := true, laidLooks := .later }
def EstimateLeastUptoCardSaid : Prop := Claim7.holds Tryz.pinned (.plain (OpenSpec.upto estimateLeastSpec)) estimateLeastUptoCard

/-- THE SECOND FORM's CARD OF 'gridhallkeep2.SuspectClean'. -/
def suspectCleanUptoCard : Claim7 := { stood := { row := suspectCleanUptoRow, standIns := [], harness := (true, "46f6f235a91c592a7d4ba81642b18d9d511421fd6310b4e5d62350f925362646"), looks := true }, kinds := [], alts := [], laidByText := true, laidKinds := [.data, .data, .data, .sentinel, .sentinel], laidTests := true, laidLooks := .later }
def SuspectCleanUptoCardSaid : Prop := Claim7.holds Tryz.pinned (.plain (OpenSpec.upto suspectCleanSpec)) suspectCleanUptoCard

/-- THE SECOND FORM's CARD OF 'gridhallkeep2.EstimateExact'. -/
def estimateExactUptoCard : Claim7 := { stood := { row := estimateExactUptoRow, standIns := [], harness := (true, "46f6f235a91c592a7d4ba81642b18d9d511421fd6310b4e5d62350f925362646"), looks := true }, kinds := [], alts := [], laidByText := true, laidKinds := [.data, .data, .data, .sentinel, .sentinel], laidTests := true, laidLooks := .later }
def EstimateExactUptoCardSaid : Prop := Claim7.holds Tryz.pinned (.plain (OpenSpec.upto estimateExactSpec)) estimateExactUptoCard

/-- THE SECOND FORM's CARD OF 'gridhallkeep2.EstimateGain'. -/
def estimateGainUptoCard : Claim7 := { stood := { row := estimateGainUptoRow, standIns := [], harness := (true, "46f6f235a91c592a7d4ba81642b18d9d511421fd6310b4e5d62350f925362646"), looks := true }, kinds := [], alts := [], laidByText := true, laidKinds := [.data, .data, .data, .sentinel, .sentinel], laidTests := true, laidLooks := .later }
def EstimateGainUptoCardSaid : Prop := Claim7.holds Tryz.pinned (.plain (OpenSpec.upto estimateGainSpec)) estimateGainUptoCard

/-- THE SECOND FORM's CARD OF 'gridhallkeep2.SuspectNormal'. -/
def suspectNormalUptoCard : Claim7 := { stood := { row := suspectNormalUptoRow, standIns := [], harness := (true, "46f6f235a91c592a7d4ba81642b18d9d511421fd6310b4e5d62350f925362646"), looks := true }, kinds := [], alts := [], laidByText := true, laidKinds := [.data, .data, .data, .sentinel, .sentinel], laidTests := true, laidLooks := .later }
def SuspectNormalUptoCardSaid : Prop := Claim7.holds Tryz.pinned (.plain (OpenSpec.upto suspectNormalSpec)) suspectNormalUptoCard

/-- THE SECOND FORM's CARD OF 'gridhallkeep2.SuspectSpread'. -/
def suspectSpreadUptoCard : Claim7 := { stood := { row := suspectSpreadUptoRow, standIns := [], harness := (true, "46f6f235a91c592a7d4ba81642b18d9d511421fd6310b4e5d62350f925362646"), looks := true }, kinds := [], alts := [], laidByText := true, laidKinds := [.data, .data, .data, .sentinel, .sentinel], laidTests := true, laidLooks := .later }
def SuspectSpreadUptoCardSaid : Prop := Claim7.holds Tryz.pinned (.plain (OpenSpec.upto suspectSpreadSpec)) suspectSpreadUptoCard

/-- THE SECOND FORM's CARD OF 'gridhallkeep2.SuspectOne'. -/
def suspectOneUptoCard : Claim7 := { stood := { row := suspectOneUptoRow, standIns := [], harness := (true, "46f6f235a91c592a7d4ba81642b18d9d511421fd6310b4e5d62350f925362646"), looks := true }, kinds := [], alts := [], laidByText := true, laidKinds := [.data, .data, .data, .sentinel, .sentinel], laidTests := true, laidLooks := .later }
def SuspectOneUptoCardSaid : Prop := Claim7.holds Tryz.pinned (.plain (OpenSpec.upto suspectOneSpec)) suspectOneUptoCard

/-- THE SECOND FORM's CARD OF 'gridhalltop.TopBadMeter'. -/
def topBadMeterUptoCard : Claim7 := { stood := { row := topBadMeterUptoRow, standIns := [], harness := (true, "46f6f235a91c592a7d4ba81642b18d9d511421fd6310b4e5d62350f925362646"), looks := true }, kinds := [], alts := [], laidByText := true, laidKinds := [.data, .data, .data, .sentinel, .sentinel], laidTests := true, laidLooks := .later }
def TopBadMeterUptoCardSaid : Prop := Claim7.holds Tryz.pinned (.plain (OpenSpec.upto topBadMeterSpec)) topBadMeterUptoCard
end Rows
end Go.Proofs.YthgdchffeigkbaaGreatDoor
