/-
  DERIVED. GIVEN WITH THE SEED: THE CARDS: each row of YthkgcakpjknlbaaDoorRows.lean that lists a variable, with what it lists TIED to the program's text (the seventh form; the later family's looks); each row that meets fmt, with fmt's text TOLD by the authors' own Lean function (tested against real Go, not proved from fmt's source: count such statements apart). THE CARD IS WHAT COUNTS. Prove the row's statement (the work); the ties are given (YthkgcakpjknlbaaDoorTie.lean); close each card by the builder's one call (the guide's Derived/Test/ToyasCard.lean, 'card_holds'). Laid BY PROGRAM, IN A SANDBOX (cutbox-door.mjs). By AI agents, Wed Nov 11 2026. No macro, syntax, notation, axiom, sorry.
-/
import Derived.Test.YthkgcakpjknlbaaDoorRows
import GoSem.ClaimSeven
namespace Go.Proofs.YthkgcakpjknlbaaDoor
namespace Rows

/-- THE TIED CARD OF 'publisherlaw23.LabelNames'. -/
def labelNamesCard : Claim7 := { stood := { row := labelNamesRow, standIns := [], harness := (true, "7baaa7b63b26eec6f69883638165d546e5d1c7a801a9bb0756c2c231e2008b32"), looks := false }, kinds := [], alts := [], laidByText := true, laidKinds := [.data, .data, .data], laidTests := true, laidLooks := .later }
def LabelNamesCardSaid : Prop := Claim7.holds Tryd.pinned (.plain (OpenSpec.ofChange labelNamesSpec)) labelNamesCard

/-- THE TIED CARD OF 'publisherlaw23.LabelChecks'. -/
def labelChecksCard : Claim7 := { stood := { row := labelChecksRow, standIns := [], harness := (true, "7baaa7b63b26eec6f69883638165d546e5d1c7a801a9bb0756c2c231e2008b32"), looks := false }, kinds := [], alts := [], laidByText := true, laidKinds := [.data, .data, .data], laidTests := true, laidLooks := .later }
def LabelChecksCardSaid : Prop := Claim7.holds Tryd.pinned (.plain (OpenSpec.ofChange labelChecksSpec)) labelChecksCard

/-- THE TIED CARD OF 'publisherlaw23.LabelMissing'. -/
def labelMissingCard : Claim7 := { stood := { row := labelMissingRow, standIns := [], harness := (true, "7baaa7b63b26eec6f69883638165d546e5d1c7a801a9bb0756c2c231e2008b32"), looks := false }, kinds := [], alts := [], laidByText := true, laidKinds := [.data, .data, .data], laidTests := true, laidLooks := .later }
def LabelMissingCardSaid : Prop := Claim7.holds Tryd.pinned (.plain (OpenSpec.ofChange labelMissingSpec)) labelMissingCard

/-- THE TIED CARD OF 'publisherlaw23.LabelLinks'. -/
def labelLinksCard : Claim7 := { stood := { row := labelLinksRow, standIns := [], harness := (true, "7baaa7b63b26eec6f69883638165d546e5d1c7a801a9bb0756c2c231e2008b32"), looks := false }, kinds := [], alts := [], laidByText := true, laidKinds := [.data, .data, .data], laidTests := true, laidLooks := .later }
def LabelLinksCardSaid : Prop := Claim7.holds Tryd.pinned (.plain (OpenSpec.ofChange labelLinksSpec)) labelLinksCard

/-- THE TIED CARD OF 'publisherlaw23.LabelDefs'. -/
def labelDefsCard : Claim7 := { stood := { row := labelDefsRow, standIns := [], harness := (true, "7baaa7b63b26eec6f69883638165d546e5d1c7a801a9bb0756c2c231e2008b32"), looks := false }, kinds := [], alts := [], laidByText := true, laidKinds := [.data, .data, .data], laidTests := true, laidLooks := .later }
def LabelDefsCardSaid : Prop := Claim7.holds Tryd.pinned (.plain (OpenSpec.ofChange labelDefsSpec)) labelDefsCard

/-- THE SECOND FORM's CARD OF 'publisherlaw23.LabelNames'. -/
def labelNamesUptoCard : Claim7 := { stood := { row := labelNamesUptoRow, standIns := [], harness := (true, "7baaa7b63b26eec6f69883638165d546e5d1c7a801a9bb0756c2c231e2008b32"), looks := false }, kinds := [], alts := [], laidByText := true, laidKinds := [.data, .data, .data], laidTests := true, laidLooks := .later }
def LabelNamesUptoCardSaid : Prop := Claim7.holds Tryd.pinned (.plain (OpenSpec.upto labelNamesSpec)) labelNamesUptoCard

/-- THE SECOND FORM's CARD OF 'publisherlaw23.LabelChecks'. -/
def labelChecksUptoCard : Claim7 := { stood := { row := labelChecksUptoRow, standIns := [], harness := (true, "7baaa7b63b26eec6f69883638165d546e5d1c7a801a9bb0756c2c231e2008b32"), looks := false }, kinds := [], alts := [], laidByText := true, laidKinds := [.data, .data, .data], laidTests := true, laidLooks := .later }
def LabelChecksUptoCardSaid : Prop := Claim7.holds Tryd.pinned (.plain (OpenSpec.upto labelChecksSpec)) labelChecksUptoCard

/-- THE SECOND FORM's CARD OF 'publisherlaw23.LabelMissing'. -/
def labelMissingUptoCard : Claim7 := { stood := { row := labelMissingUptoRow, standIns := [], harness := (true, "7baaa7b63b26eec6f69883638165d546e5d1c7a801a9bb0756c2c231e2008b32"), looks := false }, kinds := [], alts := [], laidByText := true, laidKinds := [.data, .data, .data], laidTests := true, laidLooks := .later }
def LabelMissingUptoCardSaid : Prop := Claim7.holds Tryd.pinned (.plain (OpenSpec.upto labelMissingSpec)) labelMissingUptoCard

/-- THE SECOND FORM's CARD OF 'publisherlaw23.LabelLinks'. -/
def labelLinksUptoCard : Claim7 := { stood := { row := labelLinksUptoRow, standIns := [], harness := (true, "7baaa7b63b26eec6f69883638165d546e5d1c7a801a9bb0756c2c231e2008b32"), looks := false }, kinds := [], alts := [], laidByText := true, laidKinds := [.data, .data, .data], laidTests := true, laidLooks := .later }
def LabelLinksUptoCardSaid : Prop := Claim7.holds Tryd.pinned (.plain (OpenSpec.upto labelLinksSpec)) labelLinksUptoCard

/-- THE SECOND FORM's CARD OF 'publisherlaw23.LabelDefs'. -/
def labelDefsUptoCard : Claim7 := { stood := { row := labelDefsUptoRow, standIns := [], harness := (true, "7baaa7b63b26eec6f69883638165d546e5d1c7a801a9bb0756c2c231e2008b32"), looks := false }, kinds := [], alts := [], laidByText := true, laidKinds := [.data, .data, .data], laidTests := true, laidLooks := .later }
def LabelDefsUptoCardSaid : Prop := Claim7.holds Tryd.pinned (.plain (OpenSpec.upto labelDefsSpec)) labelDefsUptoCard
end Rows
end Go.Proofs.YthkgcakpjknlbaaDoor
