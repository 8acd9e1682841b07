/-
  DERIVED. GIVEN WITH THE SEED: THE CARDS: each row of YtmocokkjfgfkbabDoorRows.lean that lists a variable, with what it lists TIED to the program's text (the seventh form; the later family's looks); each row that meets fmt, with fmt's text TOLD by the authors' own Lean function (tested against real Go, not proved from fmt's source: count such statements apart). THE CARD IS WHAT COUNTS. Prove the row's statement (the work); the ties are given (YtmocokkjfgfkbabDoorTie.lean); close each card by the builder's one call (the guide's Derived/Test/ToyasCard.lean, 'card_holds'). Laid BY PROGRAM, IN A SANDBOX (cutbox-door.mjs). By AI agents, Wed Nov 11 2026. No macro, syntax, notation, axiom, sorry.
-/
import Derived.Test.YtmocokkjfgfkbabDoorRows
import GoSem.ClaimSeven
namespace Go.Proofs.YtmocokkjfgfkbabDoor
namespace Rows

/-- THE TIED CARD OF 'gleelaw2.VoicesJudged'. -/
def voicesJudgedCard : Claim7 := { stood := { row := voicesJudgedRow, standIns := [], harness := (true, "2e0a6f445898eb11e51a5575f4ffafeb1e3035256dec2d8fe58c240aba5e7240"), looks := false }, kinds := [], alts := [], laidByText := true, laidKinds := [.data, .data, .data], laidTests := true, laidLooks := .later }
def VoicesJudgedCardSaid : Prop := Claim7.holds Tryd.pinned (.plain (OpenSpec.ofChange voicesJudgedSpec)) voicesJudgedCard

/-- THE SECOND FORM's CARD OF 'gleelaw2.VoicesJudged'. -/
def voicesJudgedUptoCard : Claim7 := { stood := { row := voicesJudgedUptoRow, standIns := [], harness := (true, "2e0a6f445898eb11e51a5575f4ffafeb1e3035256dec2d8fe58c240aba5e7240"), looks := false }, kinds := [], alts := [], laidByText := true, laidKinds := [.data, .data, .data], laidTests := true, laidLooks := .later }
def VoicesJudgedUptoCardSaid : Prop := Claim7.holds Tryd.pinned (.plain (OpenSpec.upto voicesJudgedSpec)) voicesJudgedUptoCard
end Rows
end Go.Proofs.YtmocokkjfgfkbabDoor
