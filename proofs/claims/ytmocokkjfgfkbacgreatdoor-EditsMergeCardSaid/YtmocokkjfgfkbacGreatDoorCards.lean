/-
  DERIVED. GIVEN WITH THE SEED: THE CARDS: each row of YtmocokkjfgfkbacGreatDoorRows.lean that lists a variable, with what it lists TIED to the program's text (the seventh form; the later family's looks); each row that meets fmt, with fmt's text TOLD by the authors' own Lean function (tested against real Go, not proved from fmt's source: count such statements apart). THE CARD IS WHAT COUNTS. Prove the row's statement (the work); the ties are given (YtmocokkjfgfkbacGreatDoorTie.lean); close each card by the builder's one call (the guide's Derived/Test/ToyasCard.lean, 'card_holds'). Laid BY PROGRAM, IN A SANDBOX (cutbox-door.mjs). By AI agents, Wed Nov 11 2026. No macro, syntax, notation, axiom, sorry.
-/
import Derived.Test.YtmocokkjfgfkbacGreatDoorRows
import GoSem.ClaimSeven
namespace Go.Proofs.YtmocokkjfgfkbacGreatDoor
namespace Rows

/-- THE TIED CARD OF 'gleelaw2.EditsMerge'. -/
def editsMergeCard : Claim7 := { stood := { row := editsMergeRow, standIns := [], harness := (true, "32ae22b608aaa32c6b4f2d17841e77aab711c2a1754ac011c37591bd1e74ff26"), looks := false }, kinds := [], alts := [], laidByText := true, laidKinds := [.data, .pinned], laidTests := true, laidLooks := .later }
def EditsMergeCardSaid : Prop := Claim7.holds Tryz.pinned (.plain (OpenSpec.ofChange editsMergeSpec)) editsMergeCard

/-- THE SECOND FORM's CARD OF 'gleelaw2.EditsMerge'. -/
def editsMergeUptoCard : Claim7 := { stood := { row := editsMergeUptoRow, standIns := [], harness := (true, "32ae22b608aaa32c6b4f2d17841e77aab711c2a1754ac011c37591bd1e74ff26"), looks := false }, kinds := [], alts := [], laidByText := true, laidKinds := [.data, .pinned], laidTests := true, laidLooks := .later }
def EditsMergeUptoCardSaid : Prop := Claim7.holds Tryz.pinned (.plain (OpenSpec.upto editsMergeSpec)) editsMergeUptoCard
end Rows
end Go.Proofs.YtmocokkjfgfkbacGreatDoor
