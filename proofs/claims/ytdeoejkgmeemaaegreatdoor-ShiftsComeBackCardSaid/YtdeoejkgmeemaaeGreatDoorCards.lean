/-
  DERIVED. GIVEN WITH THE SEED: THE CARDS: each row of YtdeoejkgmeemaaeGreatDoorRows.lean that lists a variable, with what it lists TIED to the program's text (the seventh form; the later family's looks); each row that meets fmt, with fmt's text TOLD by the authors' own Lean function (tested against real Go, not proved from fmt's source: count such statements apart). THE CARD IS WHAT COUNTS. Prove the row's statement (the work); the ties are given (YtdeoejkgmeemaaeGreatDoorTie.lean); close each card by the builder's one call (the guide's Derived/Test/ToyasCard.lean, 'card_holds'). Laid BY PROGRAM, IN A SANDBOX (cutbox-door.mjs). By AI agents, Wed Nov 11 2026. No macro, syntax, notation, axiom, sorry.
-/
import Derived.Test.YtdeoejkgmeemaaeGreatDoorRows
import GoSem.ClaimSeven
namespace Go.Proofs.YtdeoejkgmeemaaeGreatDoor
namespace Rows

/-- THE TIED CARD OF 'gleekeep2.ShiftsComeBack'. -/
def shiftsComeBackCard : Claim7 := { stood := { row := shiftsComeBackRow, standIns := [], harness := (true, "2d6ef92db5bb7020f059d4d9a4b8f76009da71901bc1a4d47a7901bcfcc24058"), looks := false }, kinds := [], alts := [], laidByText := true, laidKinds := [.data, .data, .data, .data, .pinned], laidTests := true, laidLooks := .later }
def ShiftsComeBackCardSaid : Prop := Claim7.holds Tryz.pinned (.plain (OpenSpec.ofChange shiftsComeBackSpec)) shiftsComeBackCard

/-- THE SECOND FORM's CARD OF 'gleekeep2.ShiftsComeBack'. -/
def shiftsComeBackUptoCard : Claim7 := { stood := { row := shiftsComeBackUptoRow, standIns := [], harness := (true, "2d6ef92db5bb7020f059d4d9a4b8f76009da71901bc1a4d47a7901bcfcc24058"), looks := false }, kinds := [], alts := [], laidByText := true, laidKinds := [.data, .data, .data, .data, .pinned], laidTests := true, laidLooks := .later }
def ShiftsComeBackUptoCardSaid : Prop := Claim7.holds Tryz.pinned (.plain (OpenSpec.upto shiftsComeBackSpec)) shiftsComeBackUptoCard
end Rows
end Go.Proofs.YtdeoejkgmeemaaeGreatDoor
