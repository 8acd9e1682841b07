/-
  DERIVED. GIVEN WITH THE SEED: THE CARDS: each row of YtkeieikpobfapaaGreatDoorRows.lean that lists a variable, with what it lists TIED to the program's text (the seventh form; the later family's looks); each row that meets fmt, with fmt's text TOLD by the authors' own Lean function (tested against real Go, not proved from fmt's source: count such statements apart). THE CARD IS WHAT COUNTS. Prove the row's statement (the work); the ties are given (YtkeieikpobfapaaGreatDoorTie.lean); close each card by the builder's one call (the guide's Derived/Test/ToyasCard.lean, 'card_holds'). Laid BY PROGRAM, IN A SANDBOX (cutbox-door.mjs). By AI agents, Wed Nov 11 2026. No macro, syntax, notation, axiom, sorry.
-/
import Derived.Test.YtkeieikpobfapaaGreatDoorRows
import GoSem.ClaimSeven
namespace Go.Proofs.YtkeieikpobfapaaGreatDoor
namespace Rows

/-- THE TIED CARD OF 'gleelaw2.PiecesRehearsed'. -/
def piecesRehearsedCard : Claim7 := { stood := { row := piecesRehearsedRow, standIns := [], harness := (true, "343afea3b46eedc6d0023858c5c41ccc5a1e660dabbd1b3e62abbd956864adda"), looks := false }, kinds := [], alts := [], laidByText := true, laidKinds := [.data, .data, .data, .data, .pinned], laidTests := true, laidLooks := .later }
def PiecesRehearsedCardSaid : Prop := Claim7.holds Tryz.pinned (.plain (OpenSpec.ofChange piecesRehearsedSpec)) piecesRehearsedCard

/-- THE SECOND FORM's CARD OF 'gleelaw2.PiecesRehearsed'. -/
def piecesRehearsedUptoCard : Claim7 := { stood := { row := piecesRehearsedUptoRow, standIns := [], harness := (true, "343afea3b46eedc6d0023858c5c41ccc5a1e660dabbd1b3e62abbd956864adda"), looks := false }, kinds := [], alts := [], laidByText := true, laidKinds := [.data, .data, .data, .data, .pinned], laidTests := true, laidLooks := .later }
def PiecesRehearsedUptoCardSaid : Prop := Claim7.holds Tryz.pinned (.plain (OpenSpec.upto piecesRehearsedSpec)) piecesRehearsedUptoCard
end Rows
end Go.Proofs.YtkeieikpobfapaaGreatDoor
