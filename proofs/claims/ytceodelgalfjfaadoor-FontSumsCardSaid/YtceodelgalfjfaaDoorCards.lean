/-
  DERIVED. GIVEN WITH THE SEED: THE CARDS: each row of YtceodelgalfjfaaDoorRows.lean that lists a variable, with what it lists TIED to the program's text (the seventh form; the later family's looks); each row that meets fmt, with fmt's text TOLD by the authors' own Lean function (tested against real Go, not proved from fmt's source: count such statements apart). THE CARD IS WHAT COUNTS. Prove the row's statement (the work); the ties are given (YtceodelgalfjfaaDoorTie.lean); close each card by the builder's one call (the guide's Derived/Test/ToyasCard.lean, 'card_holds'). Laid BY PROGRAM, IN A SANDBOX (cutbox-door.mjs). By AI agents, Wed Nov 11 2026. No macro, syntax, notation, axiom, sorry.
-/
import Derived.Test.YtceodelgalfjfaaDoorRows
import GoSem.ClaimSeven
namespace Go.Proofs.YtceodelgalfjfaaDoor
namespace Rows

/-- THE TIED CARD OF 'publisherlaw37.FontWidths'. -/
def fontWidthsCard : Claim7 := { stood := { row := fontWidthsRow, standIns := [], harness := (true, "9904509ef717f61aad65ee355e83f6902bc7ff4b3d5ef3c7669acd832d0a9ab7"), looks := false }, kinds := [], alts := [], laidByText := true, laidKinds := [.data], laidTests := true, laidLooks := .later }
def FontWidthsCardSaid : Prop := Claim7.holds Tryd.pinned (.plain (OpenSpec.ofChange fontWidthsSpec)) fontWidthsCard

/-- THE TIED CARD OF 'publisherlaw37.FontTexts'. -/
def fontTextsCard : Claim7 := { stood := { row := fontTextsRow, standIns := [], harness := (true, "9904509ef717f61aad65ee355e83f6902bc7ff4b3d5ef3c7669acd832d0a9ab7"), looks := false }, kinds := [], alts := [], laidByText := true, laidKinds := [.data], laidTests := true, laidLooks := .later }
def FontTextsCardSaid : Prop := Claim7.holds Tryd.pinned (.plain (OpenSpec.ofChange fontTextsSpec)) fontTextsCard

/-- THE TIED CARD OF 'publisherlaw37.FontSums'. -/
def fontSumsCard : Claim7 := { stood := { row := fontSumsRow, standIns := [], harness := (true, "9904509ef717f61aad65ee355e83f6902bc7ff4b3d5ef3c7669acd832d0a9ab7"), looks := false }, kinds := [], alts := [], laidByText := true, laidKinds := [.data], laidTests := true, laidLooks := .later }
def FontSumsCardSaid : Prop := Claim7.holds Tryd.pinned (.plain (OpenSpec.ofChange fontSumsSpec)) fontSumsCard

/-- THE TIED CARD OF 'publisherlaw37.FontHyphens'. -/
def fontHyphensCard : Claim7 := { stood := { row := fontHyphensRow, standIns := [], harness := (true, "9904509ef717f61aad65ee355e83f6902bc7ff4b3d5ef3c7669acd832d0a9ab7"), looks := false }, kinds := [], alts := [], laidByText := true, laidKinds := [.data], laidTests := true, laidLooks := .later }
def FontHyphensCardSaid : Prop := Claim7.holds Tryd.pinned (.plain (OpenSpec.ofChange fontHyphensSpec)) fontHyphensCard

/-- THE TIED CARD OF 'publisherlaw37.FontFits'. -/
def fontFitsCard : Claim7 := { stood := { row := fontFitsRow, standIns := [], harness := (true, "9904509ef717f61aad65ee355e83f6902bc7ff4b3d5ef3c7669acd832d0a9ab7"), looks := false }, kinds := [], alts := [], laidByText := true, laidKinds := [.data], laidTests := true, laidLooks := .later }
def FontFitsCardSaid : Prop := Claim7.holds Tryd.pinned (.plain (OpenSpec.ofChange fontFitsSpec)) fontFitsCard

/-- THE SECOND FORM's CARD OF 'publisherlaw37.FontWidths'. -/
def fontWidthsUptoCard : Claim7 := { stood := { row := fontWidthsUptoRow, standIns := [], harness := (true, "9904509ef717f61aad65ee355e83f6902bc7ff4b3d5ef3c7669acd832d0a9ab7"), looks := false }, kinds := [], alts := [], laidByText := true, laidKinds := [.data], laidTests := true, laidLooks := .later }
def FontWidthsUptoCardSaid : Prop := Claim7.holds Tryd.pinned (.plain (OpenSpec.upto fontWidthsSpec)) fontWidthsUptoCard

/-- THE SECOND FORM's CARD OF 'publisherlaw37.FontTexts'. -/
def fontTextsUptoCard : Claim7 := { stood := { row := fontTextsUptoRow, standIns := [], harness := (true, "9904509ef717f61aad65ee355e83f6902bc7ff4b3d5ef3c7669acd832d0a9ab7"), looks := false }, kinds := [], alts := [], laidByText := true, laidKinds := [.data], laidTests := true, laidLooks := .later }
def FontTextsUptoCardSaid : Prop := Claim7.holds Tryd.pinned (.plain (OpenSpec.upto fontTextsSpec)) fontTextsUptoCard

/-- THE SECOND FORM's CARD OF 'publisherlaw37.FontSums'. -/
def fontSumsUptoCard : Claim7 := { stood := { row := fontSumsUptoRow, standIns := [], harness := (true, "9904509ef717f61aad65ee355e83f6902bc7ff4b3d5ef3c7669acd832d0a9ab7"), looks := false }, kinds := [], alts := [], laidByText := true, laidKinds := [.data], laidTests := true, laidLooks := .later }
def FontSumsUptoCardSaid : Prop := Claim7.holds Tryd.pinned (.plain (OpenSpec.upto fontSumsSpec)) fontSumsUptoCard

/-- THE SECOND FORM's CARD OF 'publisherlaw37.FontHyphens'. -/
def fontHyphensUptoCard : Claim7 := { stood := { row := fontHyphensUptoRow, standIns := [], harness := (true, "9904509ef717f61aad65ee355e83f6902bc7ff4b3d5ef3c7669acd832d0a9ab7"), looks := false }, kinds := [], alts := [], laidByText := true, laidKinds := [.data], laidTests := true, laidLooks := .later }
def FontHyphensUptoCardSaid : Prop := Claim7.holds Tryd.pinned (.plain (OpenSpec.upto fontHyphensSpec)) fontHyphensUptoCard

/-- THE SECOND FORM's CARD OF 'publisherlaw37.FontFits'. -/
def fontFitsUptoCard : Claim7 := { stood := { row := fontFitsUptoRow, standIns := [], harness := (true, "9904509ef717f61aad65ee355e83f6902bc7ff4b3d5ef3c7669acd832d0a9ab7"), looks := false }, kinds := [], alts := [], laidByText := true, laidKinds := [.data], laidTests := true, laidLooks := .later }
def FontFitsUptoCardSaid : Prop := Claim7.holds Tryd.pinned (.plain (OpenSpec.upto fontFitsSpec)) fontFitsUptoCard
end Rows
end Go.Proofs.YtceodelgalfjfaaDoor
