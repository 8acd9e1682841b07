/-
  DERIVED. GIVEN WITH THE SEED: THE CARDS: each row of YtlkpfhdlfapfhacGreatDoorRows.lean that lists a variable, with what it lists TIED to the program's text (the seventh form; the later family's looks); each row that meets fmt, with fmt's text TOLD by the authors' own Lean function (tested against real Go, not proved from fmt's source: count such statements apart). THE CARD IS WHAT COUNTS. Prove the row's statement (the work); the ties are given (YtlkpfhdlfapfhacGreatDoorTie.lean); close each card by the builder's one call (the guide's Derived/Test/ToyasCard.lean, 'card_holds'). Laid BY PROGRAM, IN A SANDBOX (cutbox-door.mjs). By AI agents, Wed Nov 11 2026. No macro, syntax, notation, axiom, sorry.
-/
import Derived.Test.YtlkpfhdlfapfhacGreatDoorRows
import GoSem.ClaimSeven
namespace Go.Proofs.YtlkpfhdlfapfhacGreatDoor
namespace Rows

/-- THE TIED CARD OF 'gleekeep2.ChordsStay'. -/
def chordsStayCard : Claim7 := { stood := { row := chordsStayRow, standIns := [], harness := (true, "94060ebd08395b336d76e75fe77b991c9d0943067164477ca29ee5574be6beac"), looks := false }, kinds := [], alts := [], laidByText := true, laidKinds := [.data, .data, .data, .data, .pinned], laidTests := true, laidLooks := .later }
def ChordsStayCardSaid : Prop := Claim7.holds Tryz.pinned (.plain (OpenSpec.ofChange chordsStaySpec)) chordsStayCard

/-- THE SECOND FORM's CARD OF 'gleekeep2.ChordsStay'. -/
def chordsStayUptoCard : Claim7 := { stood := { row := chordsStayUptoRow, standIns := [], harness := (true, "94060ebd08395b336d76e75fe77b991c9d0943067164477ca29ee5574be6beac"), looks := false }, kinds := [], alts := [], laidByText := true, laidKinds := [.data, .data, .data, .data, .pinned], laidTests := true, laidLooks := .later }
def ChordsStayUptoCardSaid : Prop := Claim7.holds Tryz.pinned (.plain (OpenSpec.upto chordsStaySpec)) chordsStayUptoCard
end Rows
end Go.Proofs.YtlkpfhdlfapfhacGreatDoor
