/-
  DERIVED. GIVEN WITH THE SEED: THE CARDS: each row of YtdeoejkgmeemaafGreatDoorRows.lean that lists a variable, with what it lists TIED to the program's text (the seventh form; the later family's looks); each row that meets fmt, with fmt's text TOLD by the authors' own Lean function (tested against real Go, not proved from fmt's source: count such statements apart). THE CARD IS WHAT COUNTS. Prove the row's statement (the work); the ties are given (YtdeoejkgmeemaafGreatDoorTie.lean); close each card by the builder's one call (the guide's Derived/Test/ToyasCard.lean, 'card_holds'). Laid BY PROGRAM, IN A SANDBOX (cutbox-door.mjs). By AI agents, Wed Nov 11 2026. No macro, syntax, notation, axiom, sorry.
-/
import Derived.Test.YtdeoejkgmeemaafGreatDoorRows
import GoSem.ClaimSeven
namespace Go.Proofs.YtdeoejkgmeemaafGreatDoor
namespace Rows

/-- THE TIED CARD OF 'gleekeep2.PlayedLasts'. -/
def playedLastsCard : Claim7 := { stood := { row := playedLastsRow, standIns := [], harness := (true, "cdaf47b8612e617a3891c79ba6cf362977d4c0e4f25a61943f92f2d0b593be9c"), looks := false }, kinds := [], alts := [], laidByText := true, laidKinds := [.data, .data, .data, .data, .pinned], laidTests := true, laidLooks := .later }
def PlayedLastsCardSaid : Prop := Claim7.holds Tryz.pinned (.plain (OpenSpec.ofChange playedLastsSpec)) playedLastsCard

/-- THE SECOND FORM's CARD OF 'gleekeep2.PlayedLasts'. -/
def playedLastsUptoCard : Claim7 := { stood := { row := playedLastsUptoRow, standIns := [], harness := (true, "cdaf47b8612e617a3891c79ba6cf362977d4c0e4f25a61943f92f2d0b593be9c"), looks := false }, kinds := [], alts := [], laidByText := true, laidKinds := [.data, .data, .data, .data, .pinned], laidTests := true, laidLooks := .later }
def PlayedLastsUptoCardSaid : Prop := Claim7.holds Tryz.pinned (.plain (OpenSpec.upto playedLastsSpec)) playedLastsUptoCard
end Rows
end Go.Proofs.YtdeoejkgmeemaafGreatDoor
