/-
  DERIVED. GIVEN WITH THE SEED: THE CARDS: each row of YtgfbgcdnnkehbabGreatDoorRows.lean that lists a variable, with what it lists TIED to the program's text (the seventh form; the later family's looks); each row that meets fmt, with fmt's text TOLD by the authors' own Lean function (tested against real Go, not proved from fmt's source: count such statements apart). THE CARD IS WHAT COUNTS. Prove the row's statement (the work); the ties are given (YtgfbgcdnnkehbabGreatDoorTie.lean); close each card by the builder's one call (the guide's Derived/Test/ToyasCard.lean, 'card_holds'). Laid BY PROGRAM, IN A SANDBOX (cutbox-door.mjs). By AI agents, Wed Nov 11 2026. No macro, syntax, notation, axiom, sorry.
-/
import Derived.Test.YtgfbgcdnnkehbabGreatDoorRows
import GoSem.ClaimSeven
namespace Go.Proofs.YtgfbgcdnnkehbabGreatDoor
namespace Rows

/-- THE TIED CARD OF 'gleekeep2.ClubsStay'. -/
def clubsStayCard : Claim7 := { stood := { row := clubsStayRow, standIns := [], harness := (true, "6e10ef9fbb7556dd65d9f791913e7122803088bf8261ca3023c9c751de8f3742"), looks := false }, kinds := [], alts := [], laidByText := true, laidKinds := [.data, .data, .data, .data, .pinned], laidTests := true, laidLooks := .later }
def ClubsStayCardSaid : Prop := Claim7.holds Tryz.pinned (.plain (OpenSpec.ofChange clubsStaySpec)) clubsStayCard

/-- THE SECOND FORM's CARD OF 'gleekeep2.ClubsStay'. -/
def clubsStayUptoCard : Claim7 := { stood := { row := clubsStayUptoRow, standIns := [], harness := (true, "6e10ef9fbb7556dd65d9f791913e7122803088bf8261ca3023c9c751de8f3742"), looks := false }, kinds := [], alts := [], laidByText := true, laidKinds := [.data, .data, .data, .data, .pinned], laidTests := true, laidLooks := .later }
def ClubsStayUptoCardSaid : Prop := Claim7.holds Tryz.pinned (.plain (OpenSpec.upto clubsStaySpec)) clubsStayUptoCard
end Rows
end Go.Proofs.YtgfbgcdnnkehbabGreatDoor
