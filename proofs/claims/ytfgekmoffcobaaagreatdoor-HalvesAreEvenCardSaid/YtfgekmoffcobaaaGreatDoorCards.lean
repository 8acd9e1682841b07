/-
  DERIVED. GIVEN WITH THE SEED: THE CARDS: each row of YtfgekmoffcobaaaGreatDoorRows.lean that lists a variable, with what it lists TIED to the program's text (the seventh form; the later family's looks); each row that meets fmt, with fmt's text TOLD by the authors' own Lean function (tested against real Go, not proved from fmt's source: count such statements apart). THE CARD IS WHAT COUNTS. Prove the row's statement (the work); the ties are given (YtfgekmoffcobaaaGreatDoorTie.lean); close each card by the builder's one call (the guide's Derived/Test/ToyasCard.lean, 'card_holds'). Laid BY PROGRAM, IN A SANDBOX (cutbox-door.mjs). By AI agents, Wed Nov 11 2026. No macro, syntax, notation, axiom, sorry.
-/
import Derived.Test.YtfgekmoffcobaaaGreatDoorRows
import GoSem.ClaimSeven
namespace Go.Proofs.YtfgekmoffcobaaaGreatDoor
namespace Rows

/-- THE TIED CARD OF 'gleekeep2.HalvesAreEven'. -/
def halvesAreEvenCard : Claim7 := { stood := { row := halvesAreEvenRow, standIns := [], harness := (true, "dafc6f9938f3f24b81941bb10839e85e1915b04f8a954dfe59ff1b1e04e0fad6"), looks := false }, kinds := [], alts := [], laidByText := true, laidKinds := [.data, .data, .data, .data, .pinned], laidTests := true, laidLooks := .later }
def HalvesAreEvenCardSaid : Prop := Claim7.holds Tryz.pinned (.plain (OpenSpec.ofChange halvesAreEvenSpec)) halvesAreEvenCard

/-- THE SECOND FORM's CARD OF 'gleekeep2.HalvesAreEven'. -/
def halvesAreEvenUptoCard : Claim7 := { stood := { row := halvesAreEvenUptoRow, standIns := [], harness := (true, "dafc6f9938f3f24b81941bb10839e85e1915b04f8a954dfe59ff1b1e04e0fad6"), looks := false }, kinds := [], alts := [], laidByText := true, laidKinds := [.data, .data, .data, .data, .pinned], laidTests := true, laidLooks := .later }
def HalvesAreEvenUptoCardSaid : Prop := Claim7.holds Tryz.pinned (.plain (OpenSpec.upto halvesAreEvenSpec)) halvesAreEvenUptoCard
end Rows
end Go.Proofs.YtfgekmoffcobaaaGreatDoor
