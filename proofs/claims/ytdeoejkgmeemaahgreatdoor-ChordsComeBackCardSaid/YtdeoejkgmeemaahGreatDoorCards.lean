/-
  DERIVED. GIVEN WITH THE SEED: THE CARDS: each row of YtdeoejkgmeemaahGreatDoorRows.lean that lists a variable, with what it lists TIED to the program's text (the seventh form; the later family's looks); each row that meets fmt, with fmt's text TOLD by the authors' own Lean function (tested against real Go, not proved from fmt's source: count such statements apart). THE CARD IS WHAT COUNTS. Prove the row's statement (the work); the ties are given (YtdeoejkgmeemaahGreatDoorTie.lean); close each card by the builder's one call (the guide's Derived/Test/ToyasCard.lean, 'card_holds'). Laid BY PROGRAM, IN A SANDBOX (cutbox-door.mjs). By AI agents, Wed Nov 11 2026. No macro, syntax, notation, axiom, sorry.
-/
import Derived.Test.YtdeoejkgmeemaahGreatDoorRows
import GoSem.ClaimSeven
namespace Go.Proofs.YtdeoejkgmeemaahGreatDoor
namespace Rows

/-- THE TIED CARD OF 'gleekeep2.ChordsComeBack'. -/
def chordsComeBackCard : Claim7 := { stood := { row := chordsComeBackRow, standIns := [], harness := (true, "040858599e0615040dfd0cd8a44c528544f2dedaad437e1be47adcb6846b469e"), looks := true }, kinds := [], alts := [], laidByText := true, laidKinds := [.data, .data, .data, .data, .sentinel, .sentinel, .pinned], laidTests := true, laidLooks := .later }
def ChordsComeBackCardSaid : Prop := Claim7.holds Tryz.pinned (.plain (OpenSpec.ofChange chordsComeBackSpec)) chordsComeBackCard

/-- THE SECOND FORM's CARD OF 'gleekeep2.ChordsComeBack'. -/
def chordsComeBackUptoCard : Claim7 := { stood := { row := chordsComeBackUptoRow, standIns := [], harness := (true, "040858599e0615040dfd0cd8a44c528544f2dedaad437e1be47adcb6846b469e"), looks := true }, kinds := [], alts := [], laidByText := true, laidKinds := [.data, .data, .data, .data, .sentinel, .sentinel, .pinned], laidTests := true, laidLooks := .later }
def ChordsComeBackUptoCardSaid : Prop := Claim7.holds Tryz.pinned (.plain (OpenSpec.upto chordsComeBackSpec)) chordsComeBackUptoCard
end Rows
end Go.Proofs.YtdeoejkgmeemaahGreatDoor
