/-
  DERIVED. GIVEN WITH THE SEED: THE CARDS: each row of YtobglahldcnnmabGreatDoorRows.lean that lists a variable, with what it lists TIED to the program's text (the seventh form; the later family's looks); each row that meets fmt, with fmt's text TOLD by the authors' own Lean function (tested against real Go, not proved from fmt's source: count such statements apart). THE CARD IS WHAT COUNTS. Prove the row's statement (the work); the ties are given (YtobglahldcnnmabGreatDoorTie.lean); close each card by the builder's one call (the guide's Derived/Test/ToyasCard.lean, 'card_holds'). Laid BY PROGRAM, IN A SANDBOX (cutbox-door.mjs). By AI agents, Wed Nov 11 2026. No macro, syntax, notation, axiom, sorry.
-/
import Derived.Test.YtobglahldcnnmabGreatDoorRows
import GoSem.ClaimSeven
namespace Go.Proofs.YtobglahldcnnmabGreatDoor
namespace Rows

/-- THE TIED CARD OF 'gleetop.TopClubSings'. -/
def topClubSingsCard : Claim7 := { stood := { row := topClubSingsRow, standIns := [], harness := (true, "97827cb743b8c85e7bd1d340f74fc4b0d0e1ad8857e663a554bb50845b316ca2"), looks := false }, kinds := [], alts := [], laidByText := true, laidKinds := [.data, .data, .data, .data, .pinned], laidTests := true, laidLooks := .later }
def TopClubSingsCardSaid : Prop := Claim7.holds Tryz.pinned (.plain (OpenSpec.ofChange topClubSingsSpec)) topClubSingsCard

/-- THE SECOND FORM's CARD OF 'gleetop.TopClubSings'. -/
def topClubSingsUptoCard : Claim7 := { stood := { row := topClubSingsUptoRow, standIns := [], harness := (true, "97827cb743b8c85e7bd1d340f74fc4b0d0e1ad8857e663a554bb50845b316ca2"), looks := false }, kinds := [], alts := [], laidByText := true, laidKinds := [.data, .data, .data, .data, .pinned], laidTests := true, laidLooks := .later }
def TopClubSingsUptoCardSaid : Prop := Claim7.holds Tryz.pinned (.plain (OpenSpec.upto topClubSingsSpec)) topClubSingsUptoCard
end Rows
end Go.Proofs.YtobglahldcnnmabGreatDoor
