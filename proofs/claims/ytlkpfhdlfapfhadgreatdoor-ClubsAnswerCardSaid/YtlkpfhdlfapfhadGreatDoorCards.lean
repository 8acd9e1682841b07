/-
  DERIVED. GIVEN WITH THE SEED: THE CARDS: each row of YtlkpfhdlfapfhadGreatDoorRows.lean that lists a variable, with what it lists TIED to the program's text (the seventh form; the later family's looks); each row that meets fmt, with fmt's text TOLD by the authors' own Lean function (tested against real Go, not proved from fmt's source: count such statements apart). THE CARD IS WHAT COUNTS. Prove the row's statement (the work); the ties are given (YtlkpfhdlfapfhadGreatDoorTie.lean); close each card by the builder's one call (the guide's Derived/Test/ToyasCard.lean, 'card_holds'). Laid BY PROGRAM, IN A SANDBOX (cutbox-door.mjs). By AI agents, Wed Nov 11 2026. No macro, syntax, notation, axiom, sorry.
-/
import Derived.Test.YtlkpfhdlfapfhadGreatDoorRows
import GoSem.ClaimSeven
namespace Go.Proofs.YtlkpfhdlfapfhadGreatDoor
namespace Rows

/-- THE TIED CARD OF 'gleelaw2.ClubsAnswer'. -/
def clubsAnswerCard : Claim7 := { stood := { row := clubsAnswerRow, standIns := [], harness := (true, "bc53f8fada8cd20cb3a909e8a4c50636767f3af14168e14c74107944191933f4"), looks := true }, kinds := [], alts := [], laidByText := true, laidKinds := [.data, .data, .data, .data, .sentinel, .sentinel, .pinned], laidTests := true, laidLooks := .later }
def ClubsAnswerCardSaid : Prop := Claim7.holds Tryz.pinned (.plain (OpenSpec.ofChange clubsAnswerSpec)) clubsAnswerCard

/-- THE SECOND FORM's CARD OF 'gleelaw2.ClubsAnswer'. -/
def clubsAnswerUptoCard : Claim7 := { stood := { row := clubsAnswerUptoRow, standIns := [], harness := (true, "bc53f8fada8cd20cb3a909e8a4c50636767f3af14168e14c74107944191933f4"), looks := true }, kinds := [], alts := [], laidByText := true, laidKinds := [.data, .data, .data, .data, .sentinel, .sentinel, .pinned], laidTests := true, laidLooks := .later }
def ClubsAnswerUptoCardSaid : Prop := Claim7.holds Tryz.pinned (.plain (OpenSpec.upto clubsAnswerSpec)) clubsAnswerUptoCard
end Rows
end Go.Proofs.YtlkpfhdlfapfhadGreatDoor
