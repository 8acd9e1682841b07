/-
  DERIVED. GIVEN WITH THE SEED: THE CARDS: each row of YthonhgainmokhadGreatDoorRows.lean that lists a variable, with what it lists TIED to the program's text (the seventh form; the later family's looks); each row that meets fmt, with fmt's text TOLD by the authors' own Lean function (tested against real Go, not proved from fmt's source: count such statements apart). THE CARD IS WHAT COUNTS. Prove the row's statement (the work); the ties are given (YthonhgainmokhadGreatDoorTie.lean); close each card by the builder's one call (the guide's Derived/Test/ToyasCard.lean, 'card_holds'). Laid BY PROGRAM, IN A SANDBOX (cutbox-door.mjs). By AI agents, Wed Nov 11 2026. No macro, syntax, notation, axiom, sorry.
-/
import Derived.Test.YthonhgainmokhadGreatDoorRows
import GoSem.ClaimSeven
namespace Go.Proofs.YthonhgainmokhadGreatDoor
namespace Rows

/-- THE TIED CARD OF 'gleetop.TopVoicesArePieces'. -/
def topVoicesArePiecesCard : Claim7 := { stood := { row := topVoicesArePiecesRow, standIns := [], harness := (true, "31bce9120ca3423e19c67f08b2d0f1b0a22961670eb13b4d47f50038a73071db"), looks := false }, kinds := [], alts := [], laidByText := true, laidKinds := [.data, .data, .data, .data, .pinned], laidTests := true, laidLooks := .later }
def TopVoicesArePiecesCardSaid : Prop := Claim7.holds Tryz.pinned (.plain (OpenSpec.ofChange topVoicesArePiecesSpec)) topVoicesArePiecesCard

/-- THE SECOND FORM's CARD OF 'gleetop.TopVoicesArePieces'. -/
def topVoicesArePiecesUptoCard : Claim7 := { stood := { row := topVoicesArePiecesUptoRow, standIns := [], harness := (true, "31bce9120ca3423e19c67f08b2d0f1b0a22961670eb13b4d47f50038a73071db"), looks := false }, kinds := [], alts := [], laidByText := true, laidKinds := [.data, .data, .data, .data, .pinned], laidTests := true, laidLooks := .later }
def TopVoicesArePiecesUptoCardSaid : Prop := Claim7.holds Tryz.pinned (.plain (OpenSpec.upto topVoicesArePiecesSpec)) topVoicesArePiecesUptoCard
end Rows
end Go.Proofs.YthonhgainmokhadGreatDoor
