/-
  DERIVED. GIVEN WITH THE SEED: THE CARDS: each row of YthonhgainmokhabDoorRows.lean that lists a variable, with what it lists TIED to the program's text (the seventh form; the later family's looks); each row that meets fmt, with fmt's text TOLD by the authors' own Lean function (tested against real Go, not proved from fmt's source: count such statements apart). THE CARD IS WHAT COUNTS. Prove the row's statement (the work); the ties are given (YthonhgainmokhabDoorTie.lean); close each card by the builder's one call (the guide's Derived/Test/ToyasCard.lean, 'card_holds'). Laid BY PROGRAM, IN A SANDBOX (cutbox-door.mjs). By AI agents, Wed Nov 11 2026. No macro, syntax, notation, axiom, sorry.
-/
import Derived.Test.YthonhgainmokhabDoorRows
import GoSem.ClaimSeven
namespace Go.Proofs.YthonhgainmokhabDoor
namespace Rows

/-- THE TIED CARD OF 'gleelaw2.VoicesBest'. -/
def voicesBestCard : Claim7 := { stood := { row := voicesBestRow, standIns := [], harness := (true, "16ca100e4a50f2415cd71b08422933ffe24c49d5b6b9f9b7539a954aaa1f9cef"), looks := false }, kinds := [], alts := [], laidByText := true, laidKinds := [.data, .data, .data], laidTests := true, laidLooks := .later }
def VoicesBestCardSaid : Prop := Claim7.holds Tryd.pinned (.plain (OpenSpec.ofChange voicesBestSpec)) voicesBestCard

/-- THE SECOND FORM's CARD OF 'gleelaw2.VoicesBest'. -/
def voicesBestUptoCard : Claim7 := { stood := { row := voicesBestUptoRow, standIns := [], harness := (true, "16ca100e4a50f2415cd71b08422933ffe24c49d5b6b9f9b7539a954aaa1f9cef"), looks := false }, kinds := [], alts := [], laidByText := true, laidKinds := [.data, .data, .data], laidTests := true, laidLooks := .later }
def VoicesBestUptoCardSaid : Prop := Claim7.holds Tryd.pinned (.plain (OpenSpec.upto voicesBestSpec)) voicesBestUptoCard
end Rows
end Go.Proofs.YthonhgainmokhabDoor
