/-
  DERIVED. GIVEN WITH THE SEED: THE CARDS: each row of YtadlgemefhfejacGreatDoorRows.lean that lists a variable, with what it lists TIED to the program's text (the seventh form; the later family's looks); each row that meets fmt, with fmt's text TOLD by the authors' own Lean function (tested against real Go, not proved from fmt's source: count such statements apart). THE CARD IS WHAT COUNTS. Prove the row's statement (the work); the ties are given (YtadlgemefhfejacGreatDoorTie.lean); close each card by the builder's one call (the guide's Derived/Test/ToyasCard.lean, 'card_holds'). Laid BY PROGRAM, IN A SANDBOX (cutbox-door.mjs). By AI agents, Wed Nov 11 2026. No macro, syntax, notation, axiom, sorry.
-/
import Derived.Test.YtadlgemefhfejacGreatDoorRows
import GoSem.ClaimSeven
namespace Go.Proofs.YtadlgemefhfejacGreatDoor
namespace Rows

/-- THE TIED CARD OF 'gleekeep2.RehearsalsStay'. -/
def rehearsalsStayCard : Claim7 := { stood := { row := rehearsalsStayRow, standIns := [], harness := (true, "ae68574cd4c2348189943e7f3986f80d40ce039022c83fed2ad10e8380218b57"), looks := false }, kinds := [], alts := [], laidByText := true, laidKinds := [.data, .data, .data, .data, .pinned], laidTests := true, laidLooks := .later }
def RehearsalsStayCardSaid : Prop := Claim7.holds Tryz.pinned (.plain (OpenSpec.ofChange rehearsalsStaySpec)) rehearsalsStayCard

/-- THE SECOND FORM's CARD OF 'gleekeep2.RehearsalsStay'. -/
def rehearsalsStayUptoCard : Claim7 := { stood := { row := rehearsalsStayUptoRow, standIns := [], harness := (true, "ae68574cd4c2348189943e7f3986f80d40ce039022c83fed2ad10e8380218b57"), looks := false }, kinds := [], alts := [], laidByText := true, laidKinds := [.data, .data, .data, .data, .pinned], laidTests := true, laidLooks := .later }
def RehearsalsStayUptoCardSaid : Prop := Claim7.holds Tryz.pinned (.plain (OpenSpec.upto rehearsalsStaySpec)) rehearsalsStayUptoCard
end Rows
end Go.Proofs.YtadlgemefhfejacGreatDoor
