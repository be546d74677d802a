/-
  DERIVED. GIVEN WITH THE SEED: THE CARDS: each row of YthnboadnehbciaaDoorRows.lean that lists a variable, with what it lists TIED to the program's text (the seventh form; the later family's looks); each row that meets fmt, with fmt's text TOLD by the authors' own Lean function (tested against real Go, not proved from fmt's source: count such statements apart). THE CARD IS WHAT COUNTS. Prove the row's statement (the work); the ties are given (YthnboadnehbciaaDoorTie.lean); close each card by the builder's one call (the guide's Derived/Test/ToyasCard.lean, 'card_holds'). Laid BY PROGRAM, IN A SANDBOX (cutbox-door.mjs). By AI agents, Wed Nov 11 2026. No macro, syntax, notation, axiom, sorry.
-/
import Derived.Test.YthnboadnehbciaaDoorRows
import GoSem.ClaimSeven
namespace Go.Proofs.YthnboadnehbciaaDoor
namespace Rows

/-- THE TIED CARD OF 'publisherlaw22.CountNumbers'. -/
def countNumbersCard : Claim7 := { stood := { row := countNumbersRow, standIns := [], harness := (true, "bd9c9887d0b2fc37d6961b40250c755bd0cadb5d8f821b1aa4c451b4ad9b8b65"), looks := false }, kinds := [], alts := [], laidByText := true, laidKinds := [.data, .data, .data], laidTests := true, laidLooks := .later }
def CountNumbersCardSaid : Prop := Claim7.holds Tryd.pinned (.plain (OpenSpec.ofChange countNumbersSpec)) countNumbersCard

/-- THE TIED CARD OF 'publisherlaw22.CountNotes'. -/
def countNotesCard : Claim7 := { stood := { row := countNotesRow, standIns := [], harness := (true, "bd9c9887d0b2fc37d6961b40250c755bd0cadb5d8f821b1aa4c451b4ad9b8b65"), looks := false }, kinds := [], alts := [], laidByText := true, laidKinds := [.data, .data, .data], laidTests := true, laidLooks := .later }
def CountNotesCardSaid : Prop := Claim7.holds Tryd.pinned (.plain (OpenSpec.ofChange countNotesSpec)) countNotesCard

/-- THE TIED CARD OF 'publisherlaw22.CountFinds'. -/
def countFindsCard : Claim7 := { stood := { row := countFindsRow, standIns := [], harness := (true, "bd9c9887d0b2fc37d6961b40250c755bd0cadb5d8f821b1aa4c451b4ad9b8b65"), looks := false }, kinds := [], alts := [], laidByText := true, laidKinds := [.data, .data, .data], laidTests := true, laidLooks := .later }
def CountFindsCardSaid : Prop := Claim7.holds Tryd.pinned (.plain (OpenSpec.ofChange countFindsSpec)) countFindsCard

/-- THE TIED CARD OF 'publisherlaw22.CountGaps'. -/
def countGapsCard : Claim7 := { stood := { row := countGapsRow, standIns := [], harness := (true, "bd9c9887d0b2fc37d6961b40250c755bd0cadb5d8f821b1aa4c451b4ad9b8b65"), looks := false }, kinds := [], alts := [], laidByText := true, laidKinds := [.data, .data, .data], laidTests := true, laidLooks := .later }
def CountGapsCardSaid : Prop := Claim7.holds Tryd.pinned (.plain (OpenSpec.ofChange countGapsSpec)) countGapsCard

/-- THE TIED CARD OF 'publisherlaw22.CountRises'. -/
def countRisesCard : Claim7 := { stood := { row := countRisesRow, standIns := [], harness := (true, "bd9c9887d0b2fc37d6961b40250c755bd0cadb5d8f821b1aa4c451b4ad9b8b65"), looks := false }, kinds := [], alts := [], laidByText := true, laidKinds := [.data, .data, .data], laidTests := true, laidLooks := .later }
def CountRisesCardSaid : Prop := Claim7.holds Tryd.pinned (.plain (OpenSpec.ofChange countRisesSpec)) countRisesCard

/-- THE TIED CARD OF 'publisherlaw22.CountLevels'. -/
def countLevelsCard : Claim7 := { stood := { row := countLevelsRow, standIns := [], harness := (true, "bd9c9887d0b2fc37d6961b40250c755bd0cadb5d8f821b1aa4c451b4ad9b8b65"), looks := false }, kinds := [], alts := [], laidByText := true, laidKinds := [.data, .data, .data], laidTests := true, laidLooks := .later }
def CountLevelsCardSaid : Prop := Claim7.holds Tryd.pinned (.plain (OpenSpec.ofChange countLevelsSpec)) countLevelsCard

/-- THE SECOND FORM's CARD OF 'publisherlaw22.CountNumbers'. -/
def countNumbersUptoCard : Claim7 := { stood := { row := countNumbersUptoRow, standIns := [], harness := (true, "bd9c9887d0b2fc37d6961b40250c755bd0cadb5d8f821b1aa4c451b4ad9b8b65"), looks := false }, kinds := [], alts := [], laidByText := true, laidKinds := [.data, .data, .data], laidTests := true, laidLooks := .later }
def CountNumbersUptoCardSaid : Prop := Claim7.holds Tryd.pinned (.plain (OpenSpec.upto countNumbersSpec)) countNumbersUptoCard

/-- THE SECOND FORM's CARD OF 'publisherlaw22.CountNotes'. -/
def countNotesUptoCard : Claim7 := { stood := { row := countNotesUptoRow, standIns := [], harness := (true, "bd9c9887d0b2fc37d6961b40250c755bd0cadb5d8f821b1aa4c451b4ad9b8b65"), looks := false }, kinds := [], alts := [], laidByText := true, laidKinds := [.data, .data, .data], laidTests := true, laidLooks := .later }
def CountNotesUptoCardSaid : Prop := Claim7.holds Tryd.pinned (.plain (OpenSpec.upto countNotesSpec)) countNotesUptoCard

/-- THE SECOND FORM's CARD OF 'publisherlaw22.CountFinds'. -/
def countFindsUptoCard : Claim7 := { stood := { row := countFindsUptoRow, standIns := [], harness := (true, "bd9c9887d0b2fc37d6961b40250c755bd0cadb5d8f821b1aa4c451b4ad9b8b65"), looks := false }, kinds := [], alts := [], laidByText := true, laidKinds := [.data, .data, .data], laidTests := true, laidLooks := .later }
def CountFindsUptoCardSaid : Prop := Claim7.holds Tryd.pinned (.plain (OpenSpec.upto countFindsSpec)) countFindsUptoCard

/-- THE SECOND FORM's CARD OF 'publisherlaw22.CountGaps'. -/
def countGapsUptoCard : Claim7 := { stood := { row := countGapsUptoRow, standIns := [], harness := (true, "bd9c9887d0b2fc37d6961b40250c755bd0cadb5d8f821b1aa4c451b4ad9b8b65"), looks := false }, kinds := [], alts := [], laidByText := true, laidKinds := [.data, .data, .data], laidTests := true, laidLooks := .later }
def CountGapsUptoCardSaid : Prop := Claim7.holds Tryd.pinned (.plain (OpenSpec.upto countGapsSpec)) countGapsUptoCard

/-- THE SECOND FORM's CARD OF 'publisherlaw22.CountRises'. -/
def countRisesUptoCard : Claim7 := { stood := { row := countRisesUptoRow, standIns := [], harness := (true, "bd9c9887d0b2fc37d6961b40250c755bd0cadb5d8f821b1aa4c451b4ad9b8b65"), looks := false }, kinds := [], alts := [], laidByText := true, laidKinds := [.data, .data, .data], laidTests := true, laidLooks := .later }
def CountRisesUptoCardSaid : Prop := Claim7.holds Tryd.pinned (.plain (OpenSpec.upto countRisesSpec)) countRisesUptoCard

/-- THE SECOND FORM's CARD OF 'publisherlaw22.CountLevels'. -/
def countLevelsUptoCard : Claim7 := { stood := { row := countLevelsUptoRow, standIns := [], harness := (true, "bd9c9887d0b2fc37d6961b40250c755bd0cadb5d8f821b1aa4c451b4ad9b8b65"), looks := false }, kinds := [], alts := [], laidByText := true, laidKinds := [.data, .data, .data], laidTests := true, laidLooks := .later }
def CountLevelsUptoCardSaid : Prop := Claim7.holds Tryd.pinned (.plain (OpenSpec.upto countLevelsSpec)) countLevelsUptoCard
end Rows
end Go.Proofs.YthnboadnehbciaaDoor
