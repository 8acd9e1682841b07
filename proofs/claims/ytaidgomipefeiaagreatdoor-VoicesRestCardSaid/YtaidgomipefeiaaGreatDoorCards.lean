/-
  DERIVED. GIVEN WITH THE SEED: THE CARDS: each row of YtaidgomipefeiaaGreatDoorRows.lean that lists a variable, with what it lists TIED to the program's text (the seventh form; the later family's looks); each row that meets fmt, with fmt's text TOLD by the authors' own Lean function (tested against real Go, not proved from fmt's source: count such statements apart). THE CARD IS WHAT COUNTS. Prove the row's statement (the work); the ties are given (YtaidgomipefeiaaGreatDoorTie.lean); close each card by the builder's one call (the guide's Derived/Test/ToyasCard.lean, 'card_holds'). Laid BY PROGRAM, IN A SANDBOX (cutbox-door.mjs). By AI agents, Wed Nov 11 2026. No macro, syntax, notation, axiom, sorry.
-/
import Derived.Test.YtaidgomipefeiaaGreatDoorRows
import GoSem.ClaimSeven
namespace Go.Proofs.YtaidgomipefeiaaGreatDoor
namespace Rows

/-- THE TIED CARD OF 'gleelaw2.VoicesRest'. -/
def voicesRestCard : Claim7 := { stood := { row := voicesRestRow, standIns := [], harness := (true, "054004b28ad1f073c0854707f9f5d6ddf726fe5e126b725e830f2b230755e322"), looks := false }, kinds := [], alts := [], laidByText := true, laidKinds := [.data, .data, .data, .data, .pinned], laidTests := true, laidLooks := .later }
def VoicesRestCardSaid : Prop := Claim7.holds Tryz.pinned (.plain (OpenSpec.ofChange voicesRestSpec)) voicesRestCard

/-- THE SECOND FORM's CARD OF 'gleelaw2.VoicesRest'. -/
def voicesRestUptoCard : Claim7 := { stood := { row := voicesRestUptoRow, standIns := [], harness := (true, "054004b28ad1f073c0854707f9f5d6ddf726fe5e126b725e830f2b230755e322"), looks := false }, kinds := [], alts := [], laidByText := true, laidKinds := [.data, .data, .data, .data, .pinned], laidTests := true, laidLooks := .later }
def VoicesRestUptoCardSaid : Prop := Claim7.holds Tryz.pinned (.plain (OpenSpec.upto voicesRestSpec)) voicesRestUptoCard
end Rows
end Go.Proofs.YtaidgomipefeiaaGreatDoor
