/-
  DERIVED. GIVEN WITH THE SEED: THE CARDS: each row of YtekkhlepbacapaaDoorRows.lean that lists a variable, with what it lists TIED to the program's text (the seventh form; the later family's looks); each row that meets fmt, with fmt's text TOLD by the authors' own Lean function (tested against real Go, not proved from fmt's source: count such statements apart). THE CARD IS WHAT COUNTS. Prove the row's statement (the work); the ties are given (YtekkhlepbacapaaDoorTie.lean); close each card by the builder's one call (the guide's Derived/Test/ToyasCard.lean, 'card_holds'). Laid BY PROGRAM, IN A SANDBOX (cutbox-door.mjs). By AI agents, Wed Nov 11 2026. No macro, syntax, notation, axiom, sorry.
-/
import Derived.Test.YtekkhlepbacapaaDoorRows
import GoSem.ClaimSeven
namespace Go.Proofs.YtekkhlepbacapaaDoor
namespace Rows

/-- THE TIED CARD OF 'publisherlaw46.DiffTexts'. -/
def diffTextsCard : Claim7 := { stood := { row := diffTextsRow, standIns := [], harness := (true, "c03ccd95fbc440bdc3ca36b888dcd1a3461959a1f43c5f392d969c78b6642f38"), looks := false }, kinds := [], alts := [], laidByText := true, laidKinds := [.data, .data, .data, .data, .pinned], laidTests := true, laidLooks := .later }
def DiffTextsCardSaid : Prop := Claim7.holds Tryd.pinned (.plain (OpenSpec.ofChange diffTextsSpec)) diffTextsCard

/-- THE TIED CARD OF 'publisherlaw46.DiffBlocks'. -/
def diffBlocksCard : Claim7 := { stood := { row := diffBlocksRow, standIns := [], harness := (true, "c03ccd95fbc440bdc3ca36b888dcd1a3461959a1f43c5f392d969c78b6642f38"), looks := false }, kinds := [], alts := [], laidByText := true, laidKinds := [.data, .data, .data, .data, .pinned], laidTests := true, laidLooks := .later }
def DiffBlocksCardSaid : Prop := Claim7.holds Tryd.pinned (.plain (OpenSpec.ofChange diffBlocksSpec)) diffBlocksCard

/-- THE TIED CARD OF 'publisherlaw46.DiffWords'. -/
def diffWordsCard : Claim7 := { stood := { row := diffWordsRow, standIns := [], harness := (true, "c03ccd95fbc440bdc3ca36b888dcd1a3461959a1f43c5f392d969c78b6642f38"), looks := false }, kinds := [], alts := [], laidByText := true, laidKinds := [.data, .data, .data, .data, .pinned], laidTests := true, laidLooks := .later }
def DiffWordsCardSaid : Prop := Claim7.holds Tryd.pinned (.plain (OpenSpec.ofChange diffWordsSpec)) diffWordsCard

/-- THE TIED CARD OF 'publisherlaw46.DiffLengths'. -/
def diffLengthsCard : Claim7 := { stood := { row := diffLengthsRow, standIns := [], harness := (true, "c03ccd95fbc440bdc3ca36b888dcd1a3461959a1f43c5f392d969c78b6642f38"), looks := false }, kinds := [], alts := [], laidByText := true, laidKinds := [.data, .data, .data, .data, .pinned], laidTests := true, laidLooks := .later }
def DiffLengthsCardSaid : Prop := Claim7.holds Tryd.pinned (.plain (OpenSpec.ofChange diffLengthsSpec)) diffLengthsCard

/-- THE TIED CARD OF 'publisherlaw46.DiffPatches'. -/
def diffPatchesCard : Claim7 := { stood := { row := diffPatchesRow, standIns := [], harness := (true, "c03ccd95fbc440bdc3ca36b888dcd1a3461959a1f43c5f392d969c78b6642f38"), looks := false }, kinds := [], alts := [], laidByText := true, laidKinds := [.data, .data, .data, .data, .pinned], laidTests := true, laidLooks := .later }
def DiffPatchesCardSaid : Prop := Claim7.holds Tryd.pinned (.plain (OpenSpec.ofChange diffPatchesSpec)) diffPatchesCard

/-- THE TIED CARD OF 'publisherlaw46.DiffBack'. -/
def diffBackCard : Claim7 := { stood := { row := diffBackRow, standIns := [], harness := (true, "c03ccd95fbc440bdc3ca36b888dcd1a3461959a1f43c5f392d969c78b6642f38"), looks := false }, kinds := [], alts := [], laidByText := true, laidKinds := [.data, .data, .data, .data, .pinned], laidTests := true, laidLooks := .later }
def DiffBackCardSaid : Prop := Claim7.holds Tryd.pinned (.plain (OpenSpec.ofChange diffBackSpec)) diffBackCard

/-- THE TIED CARD OF 'publisherlaw46.DiffLongest'. -/
def diffLongestCard : Claim7 := { stood := { row := diffLongestRow, standIns := [], harness := (true, "c03ccd95fbc440bdc3ca36b888dcd1a3461959a1f43c5f392d969c78b6642f38"), looks := false }, kinds := [], alts := [], laidByText := true, laidKinds := [.data, .data, .data, .data, .pinned], laidTests := true, laidLooks := .later }
def DiffLongestCardSaid : Prop := Claim7.holds Tryd.pinned (.plain (OpenSpec.ofChange diffLongestSpec)) diffLongestCard

/-- THE SECOND FORM's CARD OF 'publisherlaw46.DiffTexts'. -/
def diffTextsUptoCard : Claim7 := { stood := { row := diffTextsUptoRow, standIns := [], harness := (true, "c03ccd95fbc440bdc3ca36b888dcd1a3461959a1f43c5f392d969c78b6642f38"), looks := false }, kinds := [], alts := [], laidByText := true, laidKinds := [.data, .data, .data, .data, .pinned], laidTests := true, laidLooks := .later }
def DiffTextsUptoCardSaid : Prop := Claim7.holds Tryd.pinned (.plain (OpenSpec.upto diffTextsSpec)) diffTextsUptoCard

/-- THE SECOND FORM's CARD OF 'publisherlaw46.DiffBlocks'. -/
def diffBlocksUptoCard : Claim7 := { stood := { row := diffBlocksUptoRow, standIns := [], harness := (true, "c03ccd95fbc440bdc3ca36b888dcd1a3461959a1f43c5f392d969c78b6642f38"), looks := false }, kinds := [], alts := [], laidByText := true, laidKinds := [.data, .data, .data, .data, .pinned], laidTests := true, laidLooks := .later }
def DiffBlocksUptoCardSaid : Prop := Claim7.holds Tryd.pinned (.plain (OpenSpec.upto diffBlocksSpec)) diffBlocksUptoCard

/-- THE SECOND FORM's CARD OF 'publisherlaw46.DiffWords'. -/
def diffWordsUptoCard : Claim7 := { stood := { row := diffWordsUptoRow, standIns := [], harness := (true, "c03ccd95fbc440bdc3ca36b888dcd1a3461959a1f43c5f392d969c78b6642f38"), looks := false }, kinds := [], alts := [], laidByText := true, laidKinds := [.data, .data, .data, .data, .pinned], laidTests := true, laidLooks := .later }
def DiffWordsUptoCardSaid : Prop := Claim7.holds Tryd.pinned (.plain (OpenSpec.upto diffWordsSpec)) diffWordsUptoCard

/-- THE SECOND FORM's CARD OF 'publisherlaw46.DiffLengths'. -/
def diffLengthsUptoCard : Claim7 := { stood := { row := diffLengthsUptoRow, standIns := [], harness := (true, "c03ccd95fbc440bdc3ca36b888dcd1a3461959a1f43c5f392d969c78b6642f38"), looks := false }, kinds := [], alts := [], laidByText := true, laidKinds := [.data, .data, .data, .data, .pinned], laidTests := true, laidLooks := .later }
def DiffLengthsUptoCardSaid : Prop := Claim7.holds Tryd.pinned (.plain (OpenSpec.upto diffLengthsSpec)) diffLengthsUptoCard

/-- THE SECOND FORM's CARD OF 'publisherlaw46.DiffPatches'. -/
def diffPatchesUptoCard : Claim7 := { stood := { row := diffPatchesUptoRow, standIns := [], harness := (true, "c03ccd95fbc440bdc3ca36b888dcd1a3461959a1f43c5f392d969c78b6642f38"), looks := false }, kinds := [], alts := [], laidByText := true, laidKinds := [.data, .data, .data, .data, .pinned], laidTests := true, laidLooks := .later }
def DiffPatchesUptoCardSaid : Prop := Claim7.holds Tryd.pinned (.plain (OpenSpec.upto diffPatchesSpec)) diffPatchesUptoCard

/-- THE SECOND FORM's CARD OF 'publisherlaw46.DiffBack'. -/
def diffBackUptoCard : Claim7 := { stood := { row := diffBackUptoRow, standIns := [], harness := (true, "c03ccd95fbc440bdc3ca36b888dcd1a3461959a1f43c5f392d969c78b6642f38"), looks := false }, kinds := [], alts := [], laidByText := true, laidKinds := [.data, .data, .data, .data, .pinned], laidTests := true, laidLooks := .later }
def DiffBackUptoCardSaid : Prop := Claim7.holds Tryd.pinned (.plain (OpenSpec.upto diffBackSpec)) diffBackUptoCard

/-- THE SECOND FORM's CARD OF 'publisherlaw46.DiffLongest'. -/
def diffLongestUptoCard : Claim7 := { stood := { row := diffLongestUptoRow, standIns := [], harness := (true, "c03ccd95fbc440bdc3ca36b888dcd1a3461959a1f43c5f392d969c78b6642f38"), looks := false }, kinds := [], alts := [], laidByText := true, laidKinds := [.data, .data, .data, .data, .pinned], laidTests := true, laidLooks := .later }
def DiffLongestUptoCardSaid : Prop := Claim7.holds Tryd.pinned (.plain (OpenSpec.upto diffLongestSpec)) diffLongestUptoCard
end Rows
end Go.Proofs.YtekkhlepbacapaaDoor
