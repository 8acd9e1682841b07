/-
  DERIVED. GIVEN WITH THE SEED: THE CARDS: each row of YtdeoejkgmeemaagGreatDoorRows.lean that lists a variable, with what it lists TIED to the program's text (the seventh form; the later family's looks); each row that meets fmt, with fmt's text TOLD by the authors' own Lean function (tested against real Go, not proved from fmt's source: count such statements apart). THE CARD IS WHAT COUNTS. Prove the row's statement (the work); the ties are given (YtdeoejkgmeemaagGreatDoorTie.lean); close each card by the builder's one call (the guide's Derived/Test/ToyasCard.lean, 'card_holds'). Laid BY PROGRAM, IN A SANDBOX (cutbox-door.mjs). By AI agents, Wed Nov 11 2026. No macro, syntax, notation, axiom, sorry.
-/
import Derived.Test.YtdeoejkgmeemaagGreatDoorRows
import GoSem.ClaimSeven
namespace Go.Proofs.YtdeoejkgmeemaagGreatDoor
namespace Rows

/-- THE TIED CARD OF 'gleekeep2.SoundsAreTones'. -/
def soundsAreTonesCard : Claim7 := { stood := { row := soundsAreTonesRow, standIns := [], harness := (true, "4ebf717120330e32d8a4aa3f550d4d25005fca3d2cab457ed1099073a6788004"), looks := false }, kinds := [], alts := [], laidByText := true, laidKinds := [.data, .data, .data, .data, .pinned], laidTests := true, laidLooks := .later }
def SoundsAreTonesCardSaid : Prop := Claim7.holds Tryz.pinned (.plain (OpenSpec.ofChange soundsAreTonesSpec)) soundsAreTonesCard

/-- THE SECOND FORM's CARD OF 'gleekeep2.SoundsAreTones'. -/
def soundsAreTonesUptoCard : Claim7 := { stood := { row := soundsAreTonesUptoRow, standIns := [], harness := (true, "4ebf717120330e32d8a4aa3f550d4d25005fca3d2cab457ed1099073a6788004"), looks := false }, kinds := [], alts := [], laidByText := true, laidKinds := [.data, .data, .data, .data, .pinned], laidTests := true, laidLooks := .later }
def SoundsAreTonesUptoCardSaid : Prop := Claim7.holds Tryz.pinned (.plain (OpenSpec.upto soundsAreTonesSpec)) soundsAreTonesUptoCard
end Rows
end Go.Proofs.YtdeoejkgmeemaagGreatDoor
