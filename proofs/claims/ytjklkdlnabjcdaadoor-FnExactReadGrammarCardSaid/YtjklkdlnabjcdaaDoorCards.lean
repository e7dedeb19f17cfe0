/-
  DERIVED. GIVEN WITH THE SEED: THE CARDS: each row of YtjklkdlnabjcdaaDoorRows.lean that lists a variable, with what it lists TIED to the program's text (the seventh form; the later family's looks); each row that meets fmt, with fmt's text TOLD by the authors' own Lean function (tested against real Go, not proved from fmt's source: count such statements apart). THE CARD IS WHAT COUNTS. Prove the row's statement (the work); the ties are given (YtjklkdlnabjcdaaDoorTie.lean); close each card by the builder's one call (the guide's Derived/Test/ToyasCard.lean, 'card_holds'). Laid BY PROGRAM, IN A SANDBOX (cutbox-door.mjs). By AI agents, Wed Nov 11 2026. No macro, syntax, notation, axiom, sorry.
-/
import Derived.Test.YtjklkdlnabjcdaaDoorRows
import GoSem.ClaimSeven
namespace Go.Proofs.YtjklkdlnabjcdaaDoor
namespace Rows

/-- THE TIED CARD OF 'laws.FnExactJournalOf'. -/
def fnExactJournalOfCard : Claim7 := { stood := { row := fnExactJournalOfRow, standIns := [], harness := (true, "622a2baa53bf502e3645396b9e0af3b79f67231178c380218a9240e12a1c512f"), looks := true }, kinds := [], alts := [], laidByText := true, laidKinds := [.data, .data, .data], laidTests := true, laidLooks := .later }
def FnExactJournalOfCardSaid : Prop := Claim7.holds Tryd.pinned (.plain (OpenSpec.ofChange fnExactJournalOfSpec)) fnExactJournalOfCard

/-- THE TIED CARD OF 'laws.FnExactRecoverJournal'. -/
def fnExactRecoverJournalCard : Claim7 := { stood := { row := fnExactRecoverJournalRow, standIns := [], harness := (true, "622a2baa53bf502e3645396b9e0af3b79f67231178c380218a9240e12a1c512f"), looks := true }, kinds := [], alts := [], laidByText := true, laidKinds := [.data, .data, .data], laidTests := true, laidLooks := .later }
def FnExactRecoverJournalCardSaid : Prop := Claim7.holds Tryd.pinned (.plain (OpenSpec.ofChange fnExactRecoverJournalSpec)) fnExactRecoverJournalCard

/-- THE TIED CARD OF 'laws.FnExactGrammarText'. -/
def fnExactGrammarTextCard : Claim7 := { stood := { row := fnExactGrammarTextRow, standIns := [], harness := (true, "622a2baa53bf502e3645396b9e0af3b79f67231178c380218a9240e12a1c512f"), looks := true }, kinds := [], alts := [], laidByText := true, laidKinds := [.data, .data, .data], laidTests := true, laidLooks := .later }
def FnExactGrammarTextCardSaid : Prop := Claim7.holds Tryd.pinned (.plain (OpenSpec.ofChange fnExactGrammarTextSpec)) fnExactGrammarTextCard

/-- THE TIED CARD OF 'laws.FnExactPlainText'. -/
def fnExactPlainTextCard : Claim7 := { stood := { row := fnExactPlainTextRow, standIns := [], harness := (true, "622a2baa53bf502e3645396b9e0af3b79f67231178c380218a9240e12a1c512f"), looks := true }, kinds := [], alts := [], laidByText := true, laidKinds := [.data, .data, .data], laidTests := true, laidLooks := .later }
def FnExactPlainTextCardSaid : Prop := Claim7.holds Tryd.pinned (.plain (OpenSpec.ofChange fnExactPlainTextSpec)) fnExactPlainTextCard

/-- THE TIED CARD OF 'laws.FnExactMachineText'. -/
def fnExactMachineTextCard : Claim7 := { stood := { row := fnExactMachineTextRow, standIns := [], harness := (true, "622a2baa53bf502e3645396b9e0af3b79f67231178c380218a9240e12a1c512f"), looks := true }, kinds := [], alts := [], laidByText := true, laidKinds := [.data, .data, .data], laidTests := true, laidLooks := .later }
def FnExactMachineTextCardSaid : Prop := Claim7.holds Tryd.pinned (.plain (OpenSpec.ofChange fnExactMachineTextSpec)) fnExactMachineTextCard

/-- THE TIED CARD OF 'laws.FnExactReadPlain'. -/
def fnExactReadPlainCard : Claim7 := { stood := { row := fnExactReadPlainRow, standIns := [], harness := (true, "622a2baa53bf502e3645396b9e0af3b79f67231178c380218a9240e12a1c512f"), looks := true }, kinds := [], alts := [], laidByText := true, laidKinds := [.data, .data, .data, .data, .sentinel, .sentinel, .pinned], laidTests := true, laidLooks := .later }
def FnExactReadPlainCardSaid : Prop := Claim7.holds Tryd.pinned (.plain (OpenSpec.ofChange fnExactReadPlainSpec)) fnExactReadPlainCard

/-- THE TIED CARD OF 'laws.FnExactReadGrammar'. -/
def fnExactReadGrammarCard : Claim7 := { stood := { row := fnExactReadGrammarRow, standIns := [], harness := (true, "622a2baa53bf502e3645396b9e0af3b79f67231178c380218a9240e12a1c512f"), looks := true }, kinds := [], alts := [], laidByText := true, laidKinds := [.data, .data, .data, .data, .sentinel, .sentinel, .pinned], laidTests := true, laidLooks := .later }
def FnExactReadGrammarCardSaid : Prop := Claim7.holds Tryd.pinned (.plain (OpenSpec.ofChange fnExactReadGrammarSpec)) fnExactReadGrammarCard

/-- THE TIED CARD OF 'laws.FnExactReadMachine'. -/
def fnExactReadMachineCard : Claim7 := { stood := { row := fnExactReadMachineRow, standIns := [], harness := (true, "622a2baa53bf502e3645396b9e0af3b79f67231178c380218a9240e12a1c512f"), looks := true }, kinds := [], alts := [], laidByText := true, laidKinds := [.data, .data, .data, .data, .sentinel, .sentinel, .pinned], laidTests := true, laidLooks := .later }
def FnExactReadMachineCardSaid : Prop := Claim7.holds Tryd.pinned (.plain (OpenSpec.ofChange fnExactReadMachineSpec)) fnExactReadMachineCard

/-- THE TIED CARD OF 'laws.FnExactCountOutputs'. -/
def fnExactCountOutputsCard : Claim7 := { stood := { row := fnExactCountOutputsRow, standIns := [], harness := (true, "622a2baa53bf502e3645396b9e0af3b79f67231178c380218a9240e12a1c512f"), looks := true }, kinds := [], alts := [], laidByText := true, laidKinds := [.data, .pinned], laidTests := true, laidLooks := .later }
def FnExactCountOutputsCardSaid : Prop := Claim7.holds Tryd.pinned (.plain (OpenSpec.ofChange fnExactCountOutputsSpec)) fnExactCountOutputsCard

/-- THE SECOND FORM's CARD OF 'laws.FnExactJournalOf'. -/
def fnExactJournalOfUptoCard : Claim7 := { stood := { row := fnExactJournalOfUptoRow, standIns := [], harness := (true, "622a2baa53bf502e3645396b9e0af3b79f67231178c380218a9240e12a1c512f"), looks := true }, kinds := [], alts := [], laidByText := true, laidKinds := [.data, .data, .data], laidTests := true, laidLooks := .later }
def FnExactJournalOfUptoCardSaid : Prop := Claim7.holds Tryd.pinned (.plain (OpenSpec.upto fnExactJournalOfSpec)) fnExactJournalOfUptoCard

/-- THE SECOND FORM's CARD OF 'laws.FnExactRecoverJournal'. -/
def fnExactRecoverJournalUptoCard : Claim7 := { stood := { row := fnExactRecoverJournalUptoRow, standIns := [], harness := (true, "622a2baa53bf502e3645396b9e0af3b79f67231178c380218a9240e12a1c512f"), looks := true }, kinds := [], alts := [], laidByText := true, laidKinds := [.data, .data, .data], laidTests := true, laidLooks := .later }
def FnExactRecoverJournalUptoCardSaid : Prop := Claim7.holds Tryd.pinned (.plain (OpenSpec.upto fnExactRecoverJournalSpec)) fnExactRecoverJournalUptoCard

/-- THE SECOND FORM's CARD OF 'laws.FnExactGrammarText'. -/
def fnExactGrammarTextUptoCard : Claim7 := { stood := { row := fnExactGrammarTextUptoRow, standIns := [], harness := (true, "622a2baa53bf502e3645396b9e0af3b79f67231178c380218a9240e12a1c512f"), looks := true }, kinds := [], alts := [], laidByText := true, laidKinds := [.data, .data, .data], laidTests := true, laidLooks := .later }
def FnExactGrammarTextUptoCardSaid : Prop := Claim7.holds Tryd.pinned (.plain (OpenSpec.upto fnExactGrammarTextSpec)) fnExactGrammarTextUptoCard

/-- THE SECOND FORM's CARD OF 'laws.FnExactPlainText'. -/
def fnExactPlainTextUptoCard : Claim7 := { stood := { row := fnExactPlainTextUptoRow, standIns := [], harness := (true, "622a2baa53bf502e3645396b9e0af3b79f67231178c380218a9240e12a1c512f"), looks := true }, kinds := [], alts := [], laidByText := true, laidKinds := [.data, .data, .data], laidTests := true, laidLooks := .later }
def FnExactPlainTextUptoCardSaid : Prop := Claim7.holds Tryd.pinned (.plain (OpenSpec.upto fnExactPlainTextSpec)) fnExactPlainTextUptoCard

/-- THE SECOND FORM's CARD OF 'laws.FnExactMachineText'. -/
def fnExactMachineTextUptoCard : Claim7 := { stood := { row := fnExactMachineTextUptoRow, standIns := [], harness := (true, "622a2baa53bf502e3645396b9e0af3b79f67231178c380218a9240e12a1c512f"), looks := true }, kinds := [], alts := [], laidByText := true, laidKinds := [.data, .data, .data], laidTests := true, laidLooks := .later }
def FnExactMachineTextUptoCardSaid : Prop := Claim7.holds Tryd.pinned (.plain (OpenSpec.upto fnExactMachineTextSpec)) fnExactMachineTextUptoCard

/-- THE SECOND FORM's CARD OF 'laws.FnExactReadPlain'. -/
def fnExactReadPlainUptoCard : Claim7 := { stood := { row := fnExactReadPlainUptoRow, standIns := [], harness := (true, "622a2baa53bf502e3645396b9e0af3b79f67231178c380218a9240e12a1c512f"), looks := true }, kinds := [], alts := [], laidByText := true, laidKinds := [.data, .data, .data, .data, .sentinel, .sentinel, .pinned], laidTests := true, laidLooks := .later }
def FnExactReadPlainUptoCardSaid : Prop := Claim7.holds Tryd.pinned (.plain (OpenSpec.upto fnExactReadPlainSpec)) fnExactReadPlainUptoCard

/-- THE SECOND FORM's CARD OF 'laws.FnExactReadGrammar'. -/
def fnExactReadGrammarUptoCard : Claim7 := { stood := { row := fnExactReadGrammarUptoRow, standIns := [], harness := (true, "622a2baa53bf502e3645396b9e0af3b79f67231178c380218a9240e12a1c512f"), looks := true }, kinds := [], alts := [], laidByText := true, laidKinds := [.data, .data, .data, .data, .sentinel, .sentinel, .pinned], laidTests := true, laidLooks := .later }
def FnExactReadGrammarUptoCardSaid : Prop := Claim7.holds Tryd.pinned (.plain (OpenSpec.upto fnExactReadGrammarSpec)) fnExactReadGrammarUptoCard

/-- THE SECOND FORM's CARD OF 'laws.FnExactReadMachine'. -/
def fnExactReadMachineUptoCard : Claim7 := { stood := { row := fnExactReadMachineUptoRow, standIns := [], harness := (true, "622a2baa53bf502e3645396b9e0af3b79f67231178c380218a9240e12a1c512f"), looks := true }, kinds := [], alts := [], laidByText := true, laidKinds := [.data, .data, .data, .data, .sentinel, .sentinel, .pinned], laidTests := true, laidLooks := .later }
def FnExactReadMachineUptoCardSaid : Prop := Claim7.holds Tryd.pinned (.plain (OpenSpec.upto fnExactReadMachineSpec)) fnExactReadMachineUptoCard

/-- THE SECOND FORM's CARD OF 'laws.FnExactCountOutputs'. -/
def fnExactCountOutputsUptoCard : Claim7 := { stood := { row := fnExactCountOutputsUptoRow, standIns := [], harness := (true, "622a2baa53bf502e3645396b9e0af3b79f67231178c380218a9240e12a1c512f"), looks := true }, kinds := [], alts := [], laidByText := true, laidKinds := [.data, .pinned], laidTests := true, laidLooks := .later }
def FnExactCountOutputsUptoCardSaid : Prop := Claim7.holds Tryd.pinned (.plain (OpenSpec.upto fnExactCountOutputsSpec)) fnExactCountOutputsUptoCard
end Rows
end Go.Proofs.YtjklkdlnabjcdaaDoor
