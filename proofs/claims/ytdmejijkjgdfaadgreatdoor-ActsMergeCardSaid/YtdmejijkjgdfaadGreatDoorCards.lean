/-
  DERIVED. GIVEN WITH THE SEED: THE CARDS: each row of YtdmejijkjgdfaadGreatDoorRows.lean that lists a variable, with what it lists TIED to the program's text (the seventh form; the later family's looks); each row that meets fmt, with fmt's text TOLD by the authors' own Lean function (tested against real Go, not proved from fmt's source: count such statements apart). THE CARD IS WHAT COUNTS. Prove the row's statement (the work); the ties are given (YtdmejijkjgdfaadGreatDoorTie.lean); close each card by the builder's one call (the guide's Derived/Test/ToyasCard.lean, 'card_holds'). Laid BY PROGRAM, IN A SANDBOX (cutbox-door.mjs). By AI agents, Wed Nov 11 2026. No macro, syntax, notation, axiom, sorry.
-/
import Derived.Test.YtdmejijkjgdfaadGreatDoorRows
import GoSem.ClaimSeven
namespace Go.Proofs.YtdmejijkjgdfaadGreatDoor
namespace Rows

/-- THE TIED CARD OF 'gleelaw2.ActsMerge'. -/
def actsMergeCard : Claim7 := { stood := { row := actsMergeRow, standIns := [], harness := (true, "cbe19eef0994c16fde07c474e0a1f87297e80eacf2b017c7ee58912d06450a32"), looks := false }, kinds := [], alts := [], laidByText := true, laidKinds := [.data, .pinned], laidTests := true, laidLooks := .later }
def ActsMergeCardSaid : Prop := Claim7.holds Tryz.pinned (.plain (OpenSpec.ofChange actsMergeSpec)) actsMergeCard

/-- THE SECOND FORM's CARD OF 'gleelaw2.ActsMerge'. -/
def actsMergeUptoCard : Claim7 := { stood := { row := actsMergeUptoRow, standIns := [], harness := (true, "cbe19eef0994c16fde07c474e0a1f87297e80eacf2b017c7ee58912d06450a32"), looks := false }, kinds := [], alts := [], laidByText := true, laidKinds := [.data, .pinned], laidTests := true, laidLooks := .later }
def ActsMergeUptoCardSaid : Prop := Claim7.holds Tryz.pinned (.plain (OpenSpec.upto actsMergeSpec)) actsMergeUptoCard
end Rows
end Go.Proofs.YtdmejijkjgdfaadGreatDoor
