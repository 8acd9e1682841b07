/-
  DERIVED. GIVEN WITH THE SEED: THE CARDS: each row of YtlhfimbpjdfdgabGreatDoorRows.lean that lists a variable, with what it lists TIED to the program's text (the seventh form; the later family's looks); each row that meets fmt, with fmt's text TOLD by the authors' own Lean function (tested against real Go, not proved from fmt's source: count such statements apart). THE CARD IS WHAT COUNTS. Prove the row's statement (the work); the ties are given (YtlhfimbpjdfdgabGreatDoorTie.lean); close each card by the builder's one call (the guide's Derived/Test/ToyasCard.lean, 'card_holds'). Laid BY PROGRAM, IN A SANDBOX (cutbox-door.mjs). By AI agents, Wed Nov 11 2026. No macro, syntax, notation, axiom, sorry.
-/
import Derived.Test.YtlhfimbpjdfdgabGreatDoorRows
import GoSem.ClaimSeven
namespace Go.Proofs.YtlhfimbpjdfdgabGreatDoor
namespace Rows

/-- THE TIED CARD OF 'gleelaw2.ToneTexts'. -/
def toneTextsCard : Claim7 := { stood := { row := toneTextsRow, standIns := [], harness := (true, "760afdddb792aff39704fbd03ea86071342213d7ace19b85312fe61d6dd9cbd5"), looks := true }, kinds := [], alts := [], laidByText := true, laidKinds := [.data, .data, .data, .data, .sentinel, .sentinel, .pinned], laidTests := true, laidLooks := .later }
def ToneTextsCardSaid : Prop := Claim7.holds Tryz.pinned (.plain (OpenSpec.ofChange toneTextsSpec)) toneTextsCard

/-- THE SECOND FORM's CARD OF 'gleelaw2.ToneTexts'. -/
def toneTextsUptoCard : Claim7 := { stood := { row := toneTextsUptoRow, standIns := [], harness := (true, "760afdddb792aff39704fbd03ea86071342213d7ace19b85312fe61d6dd9cbd5"), looks := true }, kinds := [], alts := [], laidByText := true, laidKinds := [.data, .data, .data, .data, .sentinel, .sentinel, .pinned], laidTests := true, laidLooks := .later }
def ToneTextsUptoCardSaid : Prop := Claim7.holds Tryz.pinned (.plain (OpenSpec.upto toneTextsSpec)) toneTextsUptoCard
end Rows
end Go.Proofs.YtlhfimbpjdfdgabGreatDoor
