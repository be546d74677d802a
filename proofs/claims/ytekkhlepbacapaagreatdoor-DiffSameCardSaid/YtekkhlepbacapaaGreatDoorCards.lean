/-
  DERIVED. GIVEN WITH THE SEED: THE CARDS: each row of YtekkhlepbacapaaGreatDoorRows.lean that lists a variable, with what it lists TIED to the program's text (the seventh form; the later family's looks); each row that meets fmt, with fmt's text TOLD by the authors' own Lean function (tested against real Go, not proved from fmt's source: count such statements apart). THE CARD IS WHAT COUNTS. Prove the row's statement (the work); the ties are given (YtekkhlepbacapaaGreatDoorTie.lean); close each card by the builder's one call (the guide's Derived/Test/ToyasCard.lean, 'card_holds'). Laid BY PROGRAM, IN A SANDBOX (cutbox-door.mjs). By AI agents, Wed Nov 11 2026. No macro, syntax, notation, axiom, sorry.
-/
import Derived.Test.YtekkhlepbacapaaGreatDoorRows
import GoSem.ClaimSeven
namespace Go.Proofs.YtekkhlepbacapaaGreatDoor
namespace Rows

/-- THE TIED CARD OF 'publisherlaw46.DiffSame'. -/
def diffSameCard : Claim7 := { stood := { row := diffSameRow, standIns := [], harness := (true, "1f8459a4b35b6445fbadb6929dea7d3c26f6a79ff6c68bbf1a81345b39270f33"), looks := false }, kinds := [], alts := [], laidByText := true, laidKinds := [.data, .data, .data, .data, .pinned], laidTests := true, laidLooks := .later }
def DiffSameCardSaid : Prop := Claim7.holds Tryz.pinned (.plain (OpenSpec.ofChange diffSameSpec)) diffSameCard

/-- THE SECOND FORM's CARD OF 'publisherlaw46.DiffSame'. -/
def diffSameUptoCard : Claim7 := { stood := { row := diffSameUptoRow, standIns := [], harness := (true, "1f8459a4b35b6445fbadb6929dea7d3c26f6a79ff6c68bbf1a81345b39270f33"), looks := false }, kinds := [], alts := [], laidByText := true, laidKinds := [.data, .data, .data, .data, .pinned], laidTests := true, laidLooks := .later }
def DiffSameUptoCardSaid : Prop := Claim7.holds Tryz.pinned (.plain (OpenSpec.upto diffSameSpec)) diffSameUptoCard
end Rows
end Go.Proofs.YtekkhlepbacapaaGreatDoor
