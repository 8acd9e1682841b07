/-
  DERIVED. GIVEN WITH THE SEED: THE CARDS: each row of YtdmejijkjgdfaacGreatDoorRows.lean that lists a variable, with what it lists TIED to the program's text (the seventh form; the later family's looks); each row that meets fmt, with fmt's text TOLD by the authors' own Lean function (tested against real Go, not proved from fmt's source: count such statements apart). THE CARD IS WHAT COUNTS. Prove the row's statement (the work); the ties are given (YtdmejijkjgdfaacGreatDoorTie.lean); close each card by the builder's one call (the guide's Derived/Test/ToyasCard.lean, 'card_holds'). Laid BY PROGRAM, IN A SANDBOX (cutbox-door.mjs). By AI agents, Wed Nov 11 2026. No macro, syntax, notation, axiom, sorry.
-/
import Derived.Test.YtdmejijkjgdfaacGreatDoorRows
import GoSem.ClaimSeven
namespace Go.Proofs.YtdmejijkjgdfaacGreatDoor
namespace Rows

/-- THE TIED CARD OF 'gleekeep2.WaysAreFollowed'. -/
def waysAreFollowedCard : Claim7 := { stood := { row := waysAreFollowedRow, standIns := [], harness := (true, "33c2e4d3e2bb0667b838f7575abe1c711e3a66fa87fc6d4303078bf91fc796f1"), looks := false }, kinds := [], alts := [], laidByText := true, laidKinds := [.data, .data, .data, .data, .pinned], laidTests := true, laidLooks := .later }
def WaysAreFollowedCardSaid : Prop := Claim7.holds Tryz.pinned (.plain (OpenSpec.ofChange waysAreFollowedSpec)) waysAreFollowedCard

/-- THE SECOND FORM's CARD OF 'gleekeep2.WaysAreFollowed'. -/
def waysAreFollowedUptoCard : Claim7 := { stood := { row := waysAreFollowedUptoRow, standIns := [], harness := (true, "33c2e4d3e2bb0667b838f7575abe1c711e3a66fa87fc6d4303078bf91fc796f1"), looks := false }, kinds := [], alts := [], laidByText := true, laidKinds := [.data, .data, .data, .data, .pinned], laidTests := true, laidLooks := .later }
def WaysAreFollowedUptoCardSaid : Prop := Claim7.holds Tryz.pinned (.plain (OpenSpec.upto waysAreFollowedSpec)) waysAreFollowedUptoCard
end Rows
end Go.Proofs.YtdmejijkjgdfaacGreatDoor
