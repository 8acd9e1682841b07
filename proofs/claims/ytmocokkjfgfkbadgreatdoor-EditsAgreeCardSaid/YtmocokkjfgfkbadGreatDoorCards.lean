/-
  DERIVED. GIVEN WITH THE SEED: THE CARDS: each row of YtmocokkjfgfkbadGreatDoorRows.lean that lists a variable, with what it lists TIED to the program's text (the seventh form; the later family's looks); each row that meets fmt, with fmt's text TOLD by the authors' own Lean function (tested against real Go, not proved from fmt's source: count such statements apart). THE CARD IS WHAT COUNTS. Prove the row's statement (the work); the ties are given (YtmocokkjfgfkbadGreatDoorTie.lean); close each card by the builder's one call (the guide's Derived/Test/ToyasCard.lean, 'card_holds'). Laid BY PROGRAM, IN A SANDBOX (cutbox-door.mjs). By AI agents, Wed Nov 11 2026. No macro, syntax, notation, axiom, sorry.
-/
import Derived.Test.YtmocokkjfgfkbadGreatDoorRows
import GoSem.ClaimSeven
namespace Go.Proofs.YtmocokkjfgfkbadGreatDoor
namespace Rows

/-- THE TIED CARD OF 'gleekeep2.EditsAgree'. -/
def editsAgreeCard : Claim7 := { stood := { row := editsAgreeRow, standIns := [], harness := (true, "478ff9bc6ebc34b2a8611ae4435f13b2c08371c01d1d58d4bcd0a0427436db3c"), looks := false }, kinds := [], alts := [], laidByText := true, laidKinds := [.data, .data, .data, .data, .pinned], laidTests := true, laidLooks := .later }
def EditsAgreeCardSaid : Prop := Claim7.holds Tryz.pinned (.plain (OpenSpec.ofChange editsAgreeSpec)) editsAgreeCard

/-- THE SECOND FORM's CARD OF 'gleekeep2.EditsAgree'. -/
def editsAgreeUptoCard : Claim7 := { stood := { row := editsAgreeUptoRow, standIns := [], harness := (true, "478ff9bc6ebc34b2a8611ae4435f13b2c08371c01d1d58d4bcd0a0427436db3c"), looks := false }, kinds := [], alts := [], laidByText := true, laidKinds := [.data, .data, .data, .data, .pinned], laidTests := true, laidLooks := .later }
def EditsAgreeUptoCardSaid : Prop := Claim7.holds Tryz.pinned (.plain (OpenSpec.upto editsAgreeSpec)) editsAgreeUptoCard
end Rows
end Go.Proofs.YtmocokkjfgfkbadGreatDoor
