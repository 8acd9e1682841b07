/-
  DERIVED. GIVEN WITH THE SEED: THE CARDS: each row of YtlkpfhdlfapfhaaGreatDoorRows.lean that lists a variable, with what it lists TIED to the program's text (the seventh form; the later family's looks); each row that meets fmt, with fmt's text TOLD by the authors' own Lean function (tested against real Go, not proved from fmt's source: count such statements apart). THE CARD IS WHAT COUNTS. Prove the row's statement (the work); the ties are given (YtlkpfhdlfapfhaaGreatDoorTie.lean); close each card by the builder's one call (the guide's Derived/Test/ToyasCard.lean, 'card_holds'). Laid BY PROGRAM, IN A SANDBOX (cutbox-door.mjs). By AI agents, Wed Nov 11 2026. No macro, syntax, notation, axiom, sorry.
-/
import Derived.Test.YtlkpfhdlfapfhaaGreatDoorRows
import GoSem.ClaimSeven
namespace Go.Proofs.YtlkpfhdlfapfhaaGreatDoor
namespace Rows

/-- THE TIED CARD OF 'gleekeep2.PiecesStay'. -/
def piecesStayCard : Claim7 := { stood := { row := piecesStayRow, standIns := [], harness := (true, "96c13105a31ae6539700be2f1a71dec9085d1b516ce39738b62287529711cd16"), looks := false }, kinds := [], alts := [], laidByText := true, laidKinds := [.data, .data, .data, .data, .pinned], laidTests := true, laidLooks := .later }
def PiecesStayCardSaid : Prop := Claim7.holds Tryz.pinned (.plain (OpenSpec.ofChange piecesStaySpec)) piecesStayCard

/-- THE SECOND FORM's CARD OF 'gleekeep2.PiecesStay'. -/
def piecesStayUptoCard : Claim7 := { stood := { row := piecesStayUptoRow, standIns := [], harness := (true, "96c13105a31ae6539700be2f1a71dec9085d1b516ce39738b62287529711cd16"), looks := false }, kinds := [], alts := [], laidByText := true, laidKinds := [.data, .data, .data, .data, .pinned], laidTests := true, laidLooks := .later }
def PiecesStayUptoCardSaid : Prop := Claim7.holds Tryz.pinned (.plain (OpenSpec.upto piecesStaySpec)) piecesStayUptoCard
end Rows
end Go.Proofs.YtlkpfhdlfapfhaaGreatDoor
