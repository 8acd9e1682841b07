/-
  DERIVED. GIVEN WITH THE SEED: THE CARDS: each row of YtdeoejkgmeemaacGreatDoorRows.lean that lists a variable, with what it lists TIED to the program's text (the seventh form; the later family's looks); each row that meets fmt, with fmt's text TOLD by the authors' own Lean function (tested against real Go, not proved from fmt's source: count such statements apart). THE CARD IS WHAT COUNTS. Prove the row's statement (the work); the ties are given (YtdeoejkgmeemaacGreatDoorTie.lean); close each card by the builder's one call (the guide's Derived/Test/ToyasCard.lean, 'card_holds'). Laid BY PROGRAM, IN A SANDBOX (cutbox-door.mjs). By AI agents, Wed Nov 11 2026. No macro, syntax, notation, axiom, sorry.
-/
import Derived.Test.YtdeoejkgmeemaacGreatDoorRows
import GoSem.ClaimSeven
namespace Go.Proofs.YtdeoejkgmeemaacGreatDoor
namespace Rows

/-- THE TIED CARD OF 'gleekeep2.FittingFits'. -/
def fittingFitsCard : Claim7 := { stood := { row := fittingFitsRow, standIns := [], harness := (true, "9b6731b4ff45ea3c1d508c36ffb1b2cd6321f316444456b37c4cd31a63f0d3e4"), looks := false }, kinds := [], alts := [], laidByText := true, laidKinds := [.data, .data, .data, .data, .pinned], laidTests := true, laidLooks := .later }
def FittingFitsCardSaid : Prop := Claim7.holds Tryz.pinned (.plain (OpenSpec.ofChange fittingFitsSpec)) fittingFitsCard

/-- THE SECOND FORM's CARD OF 'gleekeep2.FittingFits'. -/
def fittingFitsUptoCard : Claim7 := { stood := { row := fittingFitsUptoRow, standIns := [], harness := (true, "9b6731b4ff45ea3c1d508c36ffb1b2cd6321f316444456b37c4cd31a63f0d3e4"), looks := false }, kinds := [], alts := [], laidByText := true, laidKinds := [.data, .data, .data, .data, .pinned], laidTests := true, laidLooks := .later }
def FittingFitsUptoCardSaid : Prop := Claim7.holds Tryz.pinned (.plain (OpenSpec.upto fittingFitsSpec)) fittingFitsUptoCard
end Rows
end Go.Proofs.YtdeoejkgmeemaacGreatDoor
