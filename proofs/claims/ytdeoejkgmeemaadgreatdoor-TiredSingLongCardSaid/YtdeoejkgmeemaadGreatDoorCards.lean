/-
  DERIVED. GIVEN WITH THE SEED: THE CARDS: each row of YtdeoejkgmeemaadGreatDoorRows.lean that lists a variable, with what it lists TIED to the program's text (the seventh form; the later family's looks); each row that meets fmt, with fmt's text TOLD by the authors' own Lean function (tested against real Go, not proved from fmt's source: count such statements apart). THE CARD IS WHAT COUNTS. Prove the row's statement (the work); the ties are given (YtdeoejkgmeemaadGreatDoorTie.lean); close each card by the builder's one call (the guide's Derived/Test/ToyasCard.lean, 'card_holds'). Laid BY PROGRAM, IN A SANDBOX (cutbox-door.mjs). By AI agents, Wed Nov 11 2026. No macro, syntax, notation, axiom, sorry.
-/
import Derived.Test.YtdeoejkgmeemaadGreatDoorRows
import GoSem.ClaimSeven
namespace Go.Proofs.YtdeoejkgmeemaadGreatDoor
namespace Rows

/-- THE TIED CARD OF 'gleekeep2.TiredSingLong'. -/
def tiredSingLongCard : Claim7 := { stood := { row := tiredSingLongRow, standIns := [], harness := (true, "8f6e7bf462c7a203c328a1e5cb352bd8caec0615c1395b38368dc065499a1cbf"), looks := false }, kinds := [], alts := [], laidByText := true, laidKinds := [.data, .data, .data, .data, .pinned], laidTests := true, laidLooks := .later }
def TiredSingLongCardSaid : Prop := Claim7.holds Tryz.pinned (.plain (OpenSpec.ofChange tiredSingLongSpec)) tiredSingLongCard

/-- THE SECOND FORM's CARD OF 'gleekeep2.TiredSingLong'. -/
def tiredSingLongUptoCard : Claim7 := { stood := { row := tiredSingLongUptoRow, standIns := [], harness := (true, "8f6e7bf462c7a203c328a1e5cb352bd8caec0615c1395b38368dc065499a1cbf"), looks := false }, kinds := [], alts := [], laidByText := true, laidKinds := [.data, .data, .data, .data, .pinned], laidTests := true, laidLooks := .later }
def TiredSingLongUptoCardSaid : Prop := Claim7.holds Tryz.pinned (.plain (OpenSpec.upto tiredSingLongSpec)) tiredSingLongUptoCard
end Rows
end Go.Proofs.YtdeoejkgmeemaadGreatDoor
