/-
  DERIVED. GIVEN WITH THE SEED: THE CARDS: each row of YthkgcakpjknlbaaGreatDoorRows.lean that lists a variable, with what it lists TIED to the program's text (the seventh form; the later family's looks); each row that meets fmt, with fmt's text TOLD by the authors' own Lean function (tested against real Go, not proved from fmt's source: count such statements apart). THE CARD IS WHAT COUNTS. Prove the row's statement (the work); the ties are given (YthkgcakpjknlbaaGreatDoorTie.lean); close each card by the builder's one call (the guide's Derived/Test/ToyasCard.lean, 'card_holds'). Laid BY PROGRAM, IN A SANDBOX (cutbox-door.mjs). By AI agents, Wed Nov 11 2026. No macro, syntax, notation, axiom, sorry.
-/
import Derived.Test.YthkgcakpjknlbaaGreatDoorRows
import GoSem.ClaimSeven
namespace Go.Proofs.YthkgcakpjknlbaaGreatDoor
namespace Rows

/-- THE TIED CARD OF 'publisherlaw23.LabelResolves'. -/
def labelResolvesCard : Claim7 := { stood := { row := labelResolvesRow, standIns := [], harness := (true, "70aff8a7fd325e2869ce9df02ecb6ca85de8dfe9b2d6235e993834c85b5dc207"), looks := false }, kinds := [], alts := [], laidByText := true, laidKinds := [.data, .data, .data], laidTests := true, laidLooks := .later }
def LabelResolvesCardSaid : Prop := Claim7.holds Tryz.pinned (.plain (OpenSpec.ofChange labelResolvesSpec)) labelResolvesCard

/-- THE TIED CARD OF 'publisherlaw23.LabelSettles'. -/
def labelSettlesCard : Claim7 := { stood := { row := labelSettlesRow, standIns := [], harness := (true, "70aff8a7fd325e2869ce9df02ecb6ca85de8dfe9b2d6235e993834c85b5dc207"), looks := false }, kinds := [], alts := [], laidByText := true, laidKinds := [.data, .data, .data], laidTests := true, laidLooks := .later }
def LabelSettlesCardSaid : Prop := Claim7.holds Tryz.pinned (.plain (OpenSpec.ofChange labelSettlesSpec)) labelSettlesCard

/-- THE TIED CARD OF 'publisherlaw23.LabelNumbers'. -/
def labelNumbersCard : Claim7 := { stood := { row := labelNumbersRow, standIns := [], harness := (true, "70aff8a7fd325e2869ce9df02ecb6ca85de8dfe9b2d6235e993834c85b5dc207"), looks := false }, kinds := [], alts := [], laidByText := true, laidKinds := [.data, .data, .data], laidTests := true, laidLooks := .later }
def LabelNumbersCardSaid : Prop := Claim7.holds Tryz.pinned (.plain (OpenSpec.ofChange labelNumbersSpec)) labelNumbersCard

/-- THE SECOND FORM's CARD OF 'publisherlaw23.LabelResolves'. -/
def labelResolvesUptoCard : Claim7 := { stood := { row := labelResolvesUptoRow, standIns := [], harness := (true, "70aff8a7fd325e2869ce9df02ecb6ca85de8dfe9b2d6235e993834c85b5dc207"), looks := false }, kinds := [], alts := [], laidByText := true, laidKinds := [.data, .data, .data], laidTests := true, laidLooks := .later }
def LabelResolvesUptoCardSaid : Prop := Claim7.holds Tryz.pinned (.plain (OpenSpec.upto labelResolvesSpec)) labelResolvesUptoCard

/-- THE SECOND FORM's CARD OF 'publisherlaw23.LabelSettles'. -/
def labelSettlesUptoCard : Claim7 := { stood := { row := labelSettlesUptoRow, standIns := [], harness := (true, "70aff8a7fd325e2869ce9df02ecb6ca85de8dfe9b2d6235e993834c85b5dc207"), looks := false }, kinds := [], alts := [], laidByText := true, laidKinds := [.data, .data, .data], laidTests := true, laidLooks := .later }
def LabelSettlesUptoCardSaid : Prop := Claim7.holds Tryz.pinned (.plain (OpenSpec.upto labelSettlesSpec)) labelSettlesUptoCard

/-- THE SECOND FORM's CARD OF 'publisherlaw23.LabelNumbers'. -/
def labelNumbersUptoCard : Claim7 := { stood := { row := labelNumbersUptoRow, standIns := [], harness := (true, "70aff8a7fd325e2869ce9df02ecb6ca85de8dfe9b2d6235e993834c85b5dc207"), looks := false }, kinds := [], alts := [], laidByText := true, laidKinds := [.data, .data, .data], laidTests := true, laidLooks := .later }
def LabelNumbersUptoCardSaid : Prop := Claim7.holds Tryz.pinned (.plain (OpenSpec.upto labelNumbersSpec)) labelNumbersUptoCard
end Rows
end Go.Proofs.YthkgcakpjknlbaaGreatDoor
