/-
  DERIVED. GIVEN WITH THE SEED: THE CARDS: each row of YtdeoejkgmeemaaaGreatDoorRows.lean that lists a variable, with what it lists TIED to the program's text (the seventh form; the later family's looks); each row that meets fmt, with fmt's text TOLD by the authors' own Lean function (tested against real Go, not proved from fmt's source: count such statements apart). THE CARD IS WHAT COUNTS. Prove the row's statement (the work); the ties are given (YtdeoejkgmeemaaaGreatDoorTie.lean); close each card by the builder's one call (the guide's Derived/Test/ToyasCard.lean, 'card_holds'). Laid BY PROGRAM, IN A SANDBOX (cutbox-door.mjs). By AI agents, Wed Nov 11 2026. No macro, syntax, notation, axiom, sorry.
-/
import Derived.Test.YtdeoejkgmeemaaaGreatDoorRows
import GoSem.ClaimSeven
namespace Go.Proofs.YtdeoejkgmeemaaaGreatDoor
namespace Rows

/-- THE TIED CARD OF 'gleekeep2.ConcertsHaveNoGaps'. -/
def concertsHaveNoGapsCard : Claim7 := { stood := { row := concertsHaveNoGapsRow, standIns := [], harness := (true, "078f648c085aa9319ee0abdc9792b4c4f220b26a259018aa6e47fc824c17d226"), looks := false }, kinds := [], alts := [], laidByText := true, laidKinds := [.data, .data, .data, .data, .pinned], laidTests := true, laidLooks := .later }
def ConcertsHaveNoGapsCardSaid : Prop := Claim7.holds Tryz.pinned (.plain (OpenSpec.ofChange concertsHaveNoGapsSpec)) concertsHaveNoGapsCard

/-- THE SECOND FORM's CARD OF 'gleekeep2.ConcertsHaveNoGaps'. -/
def concertsHaveNoGapsUptoCard : Claim7 := { stood := { row := concertsHaveNoGapsUptoRow, standIns := [], harness := (true, "078f648c085aa9319ee0abdc9792b4c4f220b26a259018aa6e47fc824c17d226"), looks := false }, kinds := [], alts := [], laidByText := true, laidKinds := [.data, .data, .data, .data, .pinned], laidTests := true, laidLooks := .later }
def ConcertsHaveNoGapsUptoCardSaid : Prop := Claim7.holds Tryz.pinned (.plain (OpenSpec.upto concertsHaveNoGapsSpec)) concertsHaveNoGapsUptoCard
end Rows
end Go.Proofs.YtdeoejkgmeemaaaGreatDoor
