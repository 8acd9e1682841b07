/-
  DERIVED. GIVEN WITH THE SEED: THE CARDS: each row of YtadlgemefhfejadGreatDoorRows.lean that lists a variable, with what it lists TIED to the program's text (the seventh form; the later family's looks); each row that meets fmt, with fmt's text TOLD by the authors' own Lean function (tested against real Go, not proved from fmt's source: count such statements apart). THE CARD IS WHAT COUNTS. Prove the row's statement (the work); the ties are given (YtadlgemefhfejadGreatDoorTie.lean); close each card by the builder's one call (the guide's Derived/Test/ToyasCard.lean, 'card_holds'). Laid BY PROGRAM, IN A SANDBOX (cutbox-door.mjs). By AI agents, Wed Nov 11 2026. No macro, syntax, notation, axiom, sorry.
-/
import Derived.Test.YtadlgemefhfejadGreatDoorRows
import GoSem.ClaimSeven
namespace Go.Proofs.YtadlgemefhfejadGreatDoor
namespace Rows

/-- THE TIED CARD OF 'gleekeep2.ReadyWereThere'. -/
def readyWereThereCard : Claim7 := { stood := { row := readyWereThereRow, standIns := [], harness := (true, "7d5c5040737f5dee5afd778eecbdd8237287a6ff30072f66017284472461e881"), looks := false }, kinds := [], alts := [], laidByText := true, laidKinds := [.data, .data, .data, .data, .pinned], laidTests := true, laidLooks := .later }
def ReadyWereThereCardSaid : Prop := Claim7.holds Tryz.pinned (.plain (OpenSpec.ofChange readyWereThereSpec)) readyWereThereCard

/-- THE SECOND FORM's CARD OF 'gleekeep2.ReadyWereThere'. -/
def readyWereThereUptoCard : Claim7 := { stood := { row := readyWereThereUptoRow, standIns := [], harness := (true, "7d5c5040737f5dee5afd778eecbdd8237287a6ff30072f66017284472461e881"), looks := false }, kinds := [], alts := [], laidByText := true, laidKinds := [.data, .data, .data, .data, .pinned], laidTests := true, laidLooks := .later }
def ReadyWereThereUptoCardSaid : Prop := Claim7.holds Tryz.pinned (.plain (OpenSpec.upto readyWereThereSpec)) readyWereThereUptoCard
end Rows
end Go.Proofs.YtadlgemefhfejadGreatDoor
