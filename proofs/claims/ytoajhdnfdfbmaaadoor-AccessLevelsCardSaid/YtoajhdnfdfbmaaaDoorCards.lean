/-
  DERIVED. GIVEN WITH THE SEED: THE CARDS: each row of YtoajhdnfdfbmaaaDoorRows.lean that lists a variable, with what it lists TIED to the program's text (the seventh form; the later family's looks); each row that meets fmt, with fmt's text TOLD by the authors' own Lean function (tested against real Go, not proved from fmt's source: count such statements apart). THE CARD IS WHAT COUNTS. Prove the row's statement (the work); the ties are given (YtoajhdnfdfbmaaaDoorTie.lean); close each card by the builder's one call (the guide's Derived/Test/ToyasCard.lean, 'card_holds'). Laid BY PROGRAM, IN A SANDBOX (cutbox-door.mjs). By AI agents, Wed Nov 11 2026. No macro, syntax, notation, axiom, sorry.
-/
import Derived.Test.YtoajhdnfdfbmaaaDoorRows
import GoSem.ClaimSeven
namespace Go.Proofs.YtoajhdnfdfbmaaaDoor
namespace Rows

/-- THE TIED CARD OF 'publisherlaw45.AccessLevels'. -/
def accessLevelsCard : Claim7 := { stood := { row := accessLevelsRow, standIns := [], harness := (true, "e92abdaab898fb630a3f2b71d0331877c3f9a801e3d37b280b0269eed50bd44a"), looks := false }, kinds := [], alts := [], laidByText := true, laidKinds := [.data, .data, .data, .data, .pinned], laidTests := true, laidLooks := .later }
def AccessLevelsCardSaid : Prop := Claim7.holds Tryd.pinned (.plain (OpenSpec.ofChange accessLevelsSpec)) accessLevelsCard

/-- THE SECOND FORM's CARD OF 'publisherlaw45.AccessLevels'. -/
def accessLevelsUptoCard : Claim7 := { stood := { row := accessLevelsUptoRow, standIns := [], harness := (true, "e92abdaab898fb630a3f2b71d0331877c3f9a801e3d37b280b0269eed50bd44a"), looks := false }, kinds := [], alts := [], laidByText := true, laidKinds := [.data, .data, .data, .data, .pinned], laidTests := true, laidLooks := .later }
def AccessLevelsUptoCardSaid : Prop := Claim7.holds Tryd.pinned (.plain (OpenSpec.upto accessLevelsSpec)) accessLevelsUptoCard
end Rows
end Go.Proofs.YtoajhdnfdfbmaaaDoor
