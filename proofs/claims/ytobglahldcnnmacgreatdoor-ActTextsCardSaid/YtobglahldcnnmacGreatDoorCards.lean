/-
  DERIVED. GIVEN WITH THE SEED: THE CARDS: each row of YtobglahldcnnmacGreatDoorRows.lean that lists a variable, with what it lists TIED to the program's text (the seventh form; the later family's looks); each row that meets fmt, with fmt's text TOLD by the authors' own Lean function (tested against real Go, not proved from fmt's source: count such statements apart). THE CARD IS WHAT COUNTS. Prove the row's statement (the work); the ties are given (YtobglahldcnnmacGreatDoorTie.lean); close each card by the builder's one call (the guide's Derived/Test/ToyasCard.lean, 'card_holds'). Laid BY PROGRAM, IN A SANDBOX (cutbox-door.mjs). By AI agents, Wed Nov 11 2026. No macro, syntax, notation, axiom, sorry.
-/
import Derived.Test.YtobglahldcnnmacGreatDoorRows
import GoSem.ClaimSeven
namespace Go.Proofs.YtobglahldcnnmacGreatDoor
namespace Rows

/-- THE TIED CARD OF 'gleelaw2.ActTexts'. -/
def actTextsCard : Claim7 := { stood := { row := actTextsRow, standIns := [], harness := (true, "9fc0a13bce3f36b7a98fa2c53d4dcd91afa3c03a9ffa41cfe491b43451fb3265"), looks := true }, kinds := [], alts := [], laidByText := true, laidKinds := [.data, .data, .data, .data, .sentinel, .sentinel, .pinned], laidTests := true, laidLooks := .later }
def ActTextsCardSaid : Prop := Claim7.holds Tryz.pinned (.plain (OpenSpec.ofChange actTextsSpec)) actTextsCard

/-- THE SECOND FORM's CARD OF 'gleelaw2.ActTexts'. -/
def actTextsUptoCard : Claim7 := { stood := { row := actTextsUptoRow, standIns := [], harness := (true, "9fc0a13bce3f36b7a98fa2c53d4dcd91afa3c03a9ffa41cfe491b43451fb3265"), looks := true }, kinds := [], alts := [], laidByText := true, laidKinds := [.data, .data, .data, .data, .sentinel, .sentinel, .pinned], laidTests := true, laidLooks := .later }
def ActTextsUptoCardSaid : Prop := Claim7.holds Tryz.pinned (.plain (OpenSpec.upto actTextsSpec)) actTextsUptoCard
end Rows
end Go.Proofs.YtobglahldcnnmacGreatDoor
