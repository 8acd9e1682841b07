/-
  DERIVED. GIVEN WITH THE SEED: THE CARDS: each row of YthonhgainmokhacGreatDoorRows.lean that lists a variable, with what it lists TIED to the program's text (the seventh form; the later family's looks); each row that meets fmt, with fmt's text TOLD by the authors' own Lean function (tested against real Go, not proved from fmt's source: count such statements apart). THE CARD IS WHAT COUNTS. Prove the row's statement (the work); the ties are given (YthonhgainmokhacGreatDoorTie.lean); close each card by the builder's one call (the guide's Derived/Test/ToyasCard.lean, 'card_holds'). Laid BY PROGRAM, IN A SANDBOX (cutbox-door.mjs). By AI agents, Wed Nov 11 2026. No macro, syntax, notation, axiom, sorry.
-/
import Derived.Test.YthonhgainmokhacGreatDoorRows
import GoSem.ClaimSeven
namespace Go.Proofs.YthonhgainmokhacGreatDoor
namespace Rows

/-- THE TIED CARD OF 'gleekeep2.BestVoicesFit'. -/
def bestVoicesFitCard : Claim7 := { stood := { row := bestVoicesFitRow, standIns := [], harness := (true, "00102c5d278107df79528e7ce0e5520c9b117a9bacba5d43379db470c641b549"), looks := false }, kinds := [], alts := [], laidByText := true, laidKinds := [.data, .data, .data, .data, .pinned], laidTests := true, laidLooks := .later }
def BestVoicesFitCardSaid : Prop := Claim7.holds Tryz.pinned (.plain (OpenSpec.ofChange bestVoicesFitSpec)) bestVoicesFitCard

/-- THE SECOND FORM's CARD OF 'gleekeep2.BestVoicesFit'. -/
def bestVoicesFitUptoCard : Claim7 := { stood := { row := bestVoicesFitUptoRow, standIns := [], harness := (true, "00102c5d278107df79528e7ce0e5520c9b117a9bacba5d43379db470c641b549"), looks := false }, kinds := [], alts := [], laidByText := true, laidKinds := [.data, .data, .data, .data, .pinned], laidTests := true, laidLooks := .later }
def BestVoicesFitUptoCardSaid : Prop := Claim7.holds Tryz.pinned (.plain (OpenSpec.upto bestVoicesFitSpec)) bestVoicesFitUptoCard
end Rows
end Go.Proofs.YthonhgainmokhacGreatDoor
