/-
  DERIVED. GIVEN WITH THE SEED: THE CARDS: each row of YtoajhdnfdfbmaaaGreatDoorRows.lean that lists a variable, with what it lists TIED to the program's text (the seventh form; the later family's looks); each row that meets fmt, with fmt's text TOLD by the authors' own Lean function (tested against real Go, not proved from fmt's source: count such statements apart). THE CARD IS WHAT COUNTS. Prove the row's statement (the work); the ties are given (YtoajhdnfdfbmaaaGreatDoorTie.lean); close each card by the builder's one call (the guide's Derived/Test/ToyasCard.lean, 'card_holds'). Laid BY PROGRAM, IN A SANDBOX (cutbox-door.mjs). By AI agents, Wed Nov 11 2026. No macro, syntax, notation, axiom, sorry.
-/
import Derived.Test.YtoajhdnfdfbmaaaGreatDoorRows
import GoSem.ClaimSeven
namespace Go.Proofs.YtoajhdnfdfbmaaaGreatDoor
namespace Rows

/-- THE TIED CARD OF 'publisherlaw45.AccessOnce'. -/
def accessOnceCard : Claim7 := { stood := { row := accessOnceRow, standIns := [], harness := (true, "4f1370d057284cfb9d7dd7148612b1a4e63ae2521d2b3293223e9a6c81bbdd2d"), looks := false }, kinds := [], alts := [], laidByText := true, laidKinds := [.data, .data, .data, .data, .pinned], laidTests := true, laidLooks := .later }
def AccessOnceCardSaid : Prop := Claim7.holds Tryz.pinned (.plain (OpenSpec.ofChange accessOnceSpec)) accessOnceCard

/-- THE TIED CARD OF 'publisherlaw45.AccessLeft'. -/
def accessLeftCard : Claim7 := { stood := { row := accessLeftRow, standIns := [], harness := (true, "4f1370d057284cfb9d7dd7148612b1a4e63ae2521d2b3293223e9a6c81bbdd2d"), looks := false }, kinds := [], alts := [], laidByText := true, laidKinds := [.data, .data, .data, .data, .pinned], laidTests := true, laidLooks := .later }
def AccessLeftCardSaid : Prop := Claim7.holds Tryz.pinned (.plain (OpenSpec.ofChange accessLeftSpec)) accessLeftCard

/-- THE SECOND FORM's CARD OF 'publisherlaw45.AccessOnce'. -/
def accessOnceUptoCard : Claim7 := { stood := { row := accessOnceUptoRow, standIns := [], harness := (true, "4f1370d057284cfb9d7dd7148612b1a4e63ae2521d2b3293223e9a6c81bbdd2d"), looks := false }, kinds := [], alts := [], laidByText := true, laidKinds := [.data, .data, .data, .data, .pinned], laidTests := true, laidLooks := .later }
def AccessOnceUptoCardSaid : Prop := Claim7.holds Tryz.pinned (.plain (OpenSpec.upto accessOnceSpec)) accessOnceUptoCard

/-- THE SECOND FORM's CARD OF 'publisherlaw45.AccessLeft'. -/
def accessLeftUptoCard : Claim7 := { stood := { row := accessLeftUptoRow, standIns := [], harness := (true, "4f1370d057284cfb9d7dd7148612b1a4e63ae2521d2b3293223e9a6c81bbdd2d"), looks := false }, kinds := [], alts := [], laidByText := true, laidKinds := [.data, .data, .data, .data, .pinned], laidTests := true, laidLooks := .later }
def AccessLeftUptoCardSaid : Prop := Claim7.holds Tryz.pinned (.plain (OpenSpec.upto accessLeftSpec)) accessLeftUptoCard
end Rows
end Go.Proofs.YtoajhdnfdfbmaaaGreatDoor
