/-
  DERIVED. GIVEN WITH THE SEED: THE CARDS: each row of YtmmkkkakbbidjaaDoorRows.lean that lists a variable, with what it lists TIED to the program's text (the seventh form; the later family's looks); each row that meets fmt, with fmt's text TOLD by the authors' own Lean function (tested against real Go, not proved from fmt's source: count such statements apart). THE CARD IS WHAT COUNTS. Prove the row's statement (the work); the ties are given (YtmmkkkakbbidjaaDoorTie.lean); close each card by the builder's one call (the guide's Derived/Test/ToyasCard.lean, 'card_holds'). Laid BY PROGRAM, IN A SANDBOX (cutbox-door.mjs). By AI agents, Wed Nov 11 2026. No macro, syntax, notation, axiom, sorry.
-/
import Derived.Test.YtmmkkkakbbidjaaDoorRows
import GoSem.ClaimSeven
namespace Go.Proofs.YtmmkkkakbbidjaaDoor
namespace Rows

/-- THE TIED CARD OF 'gridhallkeep2.JournalGroups'. -/
def journalGroupsCard : Claim7 := { stood := { row := journalGroupsRow, standIns := [], harness := (true, "a62350358de9e1605f3fed424217f58babf53fe57edfd40c72ce62b378b44d76"), looks := true }, kinds := [], alts := [], laidByText := true, laidKinds := [.data, .data, .data], laidTests := true, laidLooks := .later }
def JournalGroupsCardSaid : Prop := Claim7.holds Tryd.pinned (.plain (OpenSpec.ofChange journalGroupsSpec)) journalGroupsCard

/-- THE TIED CARD OF 'gridhallkeep2.JournalFirst'. -/
def journalFirstCard : Claim7 := { stood := { row := journalFirstRow, standIns := [], harness := (true, "a62350358de9e1605f3fed424217f58babf53fe57edfd40c72ce62b378b44d76"), looks := true }, kinds := [], alts := [], laidByText := true, laidKinds := [.data, .data, .data], laidTests := true, laidLooks := .later }
def JournalFirstCardSaid : Prop := Claim7.holds Tryd.pinned (.plain (OpenSpec.ofChange journalFirstSpec)) journalFirstCard

/-- THE TIED CARD OF 'gridhallkeep2.JournalMerges'. -/
def journalMergesCard : Claim7 := { stood := { row := journalMergesRow, standIns := [], harness := (true, "a62350358de9e1605f3fed424217f58babf53fe57edfd40c72ce62b378b44d76"), looks := true }, kinds := [], alts := [], laidByText := true, laidKinds := [.data, .data, .data], laidTests := true, laidLooks := .later }
def JournalMergesCardSaid : Prop := Claim7.holds Tryd.pinned (.plain (OpenSpec.ofChange journalMergesSpec)) journalMergesCard

/-- THE TIED CARD OF 'gridhallkeep2.JournalTexts'. -/
def journalTextsCard : Claim7 := { stood := { row := journalTextsRow, standIns := [], harness := (true, "a62350358de9e1605f3fed424217f58babf53fe57edfd40c72ce62b378b44d76"), looks := true }, kinds := [], alts := [], laidByText := true, laidKinds := [.data, .data, .data, .data, .sentinel, .sentinel, .pinned], laidTests := true, laidLooks := .later }
def JournalTextsCardSaid : Prop := Claim7.holds Tryd.pinned (.plain (OpenSpec.ofChange journalTextsSpec)) journalTextsCard

/-- THE TIED CARD OF 'gridhallkeep2.JournalParses'. -/
def journalParsesCard : Claim7 := { stood := { row := journalParsesRow, standIns := [], harness := (true, "a62350358de9e1605f3fed424217f58babf53fe57edfd40c72ce62b378b44d76"), looks := true }, kinds := [], alts := [], laidByText := true, laidKinds := [.data, .data, .data, .data, .sentinel, .sentinel, .pinned], laidTests := true, laidLooks := .later }
def JournalParsesCardSaid : Prop := Claim7.holds Tryd.pinned (.plain (OpenSpec.ofChange journalParsesSpec)) journalParsesCard

/-- THE SECOND FORM's CARD OF 'gridhallkeep2.JournalGroups'. -/
def journalGroupsUptoCard : Claim7 := { stood := { row := journalGroupsUptoRow, standIns := [], harness := (true, "a62350358de9e1605f3fed424217f58babf53fe57edfd40c72ce62b378b44d76"), looks := true }, kinds := [], alts := [], laidByText := true, laidKinds := [.data, .data, .data], laidTests := true, laidLooks := .later }
def JournalGroupsUptoCardSaid : Prop := Claim7.holds Tryd.pinned (.plain (OpenSpec.upto journalGroupsSpec)) journalGroupsUptoCard

/-- THE SECOND FORM's CARD OF 'gridhallkeep2.JournalFirst'. -/
def journalFirstUptoCard : Claim7 := { stood := { row := journalFirstUptoRow, standIns := [], harness := (true, "a62350358de9e1605f3fed424217f58babf53fe57edfd40c72ce62b378b44d76"), looks := true }, kinds := [], alts := [], laidByText := true, laidKinds := [.data, .data, .data], laidTests := true, laidLooks := .later }
def JournalFirstUptoCardSaid : Prop := Claim7.holds Tryd.pinned (.plain (OpenSpec.upto journalFirstSpec)) journalFirstUptoCard

/-- THE SECOND FORM's CARD OF 'gridhallkeep2.JournalMerges'. -/
def journalMergesUptoCard : Claim7 := { stood := { row := journalMergesUptoRow, standIns := [], harness := (true, "a62350358de9e1605f3fed424217f58babf53fe57edfd40c72ce62b378b44d76"), looks := true }, kinds := [], alts := [], laidByText := true, laidKinds := [.data, .data, .data], laidTests := true, laidLooks := .later }
def JournalMergesUptoCardSaid : Prop := Claim7.holds Tryd.pinned (.plain (OpenSpec.upto journalMergesSpec)) journalMergesUptoCard

/-- THE SECOND FORM's CARD OF 'gridhallkeep2.JournalTexts'. -/
def journalTextsUptoCard : Claim7 := { stood := { row := journalTextsUptoRow, standIns := [], harness := (true, "a62350358de9e1605f3fed424217f58babf53fe57edfd40c72ce62b378b44d76"), looks := true }, kinds := [], alts := [], laidByText := true, laidKinds := [.data, .data, .data, .data, .sentinel, .sentinel, .pinned], laidTests := true, laidLooks := .later }
def JournalTextsUptoCardSaid : Prop := Claim7.holds Tryd.pinned (.plain (OpenSpec.upto journalTextsSpec)) journalTextsUptoCard

/-- THE SECOND FORM's CARD OF 'gridhallkeep2.JournalParses'. -/
def journalParsesUptoCard : Claim7 := { stood := { row := journalParsesUptoRow, standIns := [], harness := (true, "a62350358de9e1605f3fed424217f58babf53fe57edfd40c72ce62b378b44d76"), looks := true }, kinds := [], alts := [], laidByText := true, laidKinds := [.data, .data, .data, .data, .sentinel, .sentinel, .pinned], laidTests := true, laidLooks := .later }
def JournalParsesUptoCardSaid : Prop := Claim7.holds Tryd.pinned (.plain (OpenSpec.upto journalParsesSpec)) journalParsesUptoCard
end Rows
end Go.Proofs.YtmmkkkakbbidjaaDoor
