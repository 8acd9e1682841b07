/-
  DERIVED. GIVEN WITH THE SEED: THE CARDS: each row of YtlhfimbpjdfdgacGreatDoorRows.lean that lists a variable, with what it lists TIED to the program's text (the seventh form; the later family's looks); each row that meets fmt, with fmt's text TOLD by the authors' own Lean function (tested against real Go, not proved from fmt's source: count such statements apart). THE CARD IS WHAT COUNTS. Prove the row's statement (the work); the ties are given (YtlhfimbpjdfdgacGreatDoorTie.lean); close each card by the builder's one call (the guide's Derived/Test/ToyasCard.lean, 'card_holds'). Laid BY PROGRAM, IN A SANDBOX (cutbox-door.mjs). By AI agents, Wed Nov 11 2026. No macro, syntax, notation, axiom, sorry.
-/
import Derived.Test.YtlhfimbpjdfdgacGreatDoorRows
import GoSem.ClaimSeven
namespace Go.Proofs.YtlhfimbpjdfdgacGreatDoor
namespace Rows

/-- THE TIED CARD OF 'gleekeep2.TonesAreRead'. -/
def tonesAreReadCard : Claim7 := { stood := { row := tonesAreReadRow, standIns := [], harness := (true, "9fc410b016c9667e13d0a9413ed0e67060a3ceed36c2979280b280d0474d8231"), looks := true }, kinds := [], alts := [], laidByText := true, laidKinds := [.data, .data, .data, .data, .sentinel, .sentinel, .pinned], laidTests := true, laidLooks := .later }
def TonesAreReadCardSaid : Prop := Claim7.holds Tryz.pinned (.plain (OpenSpec.ofChange tonesAreReadSpec)) tonesAreReadCard

/-- THE SECOND FORM's CARD OF 'gleekeep2.TonesAreRead'. -/
def tonesAreReadUptoCard : Claim7 := { stood := { row := tonesAreReadUptoRow, standIns := [], harness := (true, "9fc410b016c9667e13d0a9413ed0e67060a3ceed36c2979280b280d0474d8231"), looks := true }, kinds := [], alts := [], laidByText := true, laidKinds := [.data, .data, .data, .data, .sentinel, .sentinel, .pinned], laidTests := true, laidLooks := .later }
def TonesAreReadUptoCardSaid : Prop := Claim7.holds Tryz.pinned (.plain (OpenSpec.upto tonesAreReadSpec)) tonesAreReadUptoCard
end Rows
end Go.Proofs.YtlhfimbpjdfdgacGreatDoor
