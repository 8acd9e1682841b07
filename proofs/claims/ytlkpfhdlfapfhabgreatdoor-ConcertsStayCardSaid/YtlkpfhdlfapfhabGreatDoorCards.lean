/-
  DERIVED. GIVEN WITH THE SEED: THE CARDS: each row of YtlkpfhdlfapfhabGreatDoorRows.lean that lists a variable, with what it lists TIED to the program's text (the seventh form; the later family's looks); each row that meets fmt, with fmt's text TOLD by the authors' own Lean function (tested against real Go, not proved from fmt's source: count such statements apart). THE CARD IS WHAT COUNTS. Prove the row's statement (the work); the ties are given (YtlkpfhdlfapfhabGreatDoorTie.lean); close each card by the builder's one call (the guide's Derived/Test/ToyasCard.lean, 'card_holds'). Laid BY PROGRAM, IN A SANDBOX (cutbox-door.mjs). By AI agents, Wed Nov 11 2026. No macro, syntax, notation, axiom, sorry.
-/
import Derived.Test.YtlkpfhdlfapfhabGreatDoorRows
import GoSem.ClaimSeven
namespace Go.Proofs.YtlkpfhdlfapfhabGreatDoor
namespace Rows

/-- THE TIED CARD OF 'gleekeep2.ConcertsStay'. -/
def concertsStayCard : Claim7 := { stood := { row := concertsStayRow, standIns := [], harness := (true, "c4158a26deda3413dc883cd88fd96b1919807961b12167a4ebde482874ebc8e8"), looks := false }, kinds := [], alts := [], laidByText := true, laidKinds := [.data, .data, .data, .data, .pinned], laidTests := true, laidLooks := .later }
def ConcertsStayCardSaid : Prop := Claim7.holds Tryz.pinned (.plain (OpenSpec.ofChange concertsStaySpec)) concertsStayCard

/-- THE SECOND FORM's CARD OF 'gleekeep2.ConcertsStay'. -/
def concertsStayUptoCard : Claim7 := { stood := { row := concertsStayUptoRow, standIns := [], harness := (true, "c4158a26deda3413dc883cd88fd96b1919807961b12167a4ebde482874ebc8e8"), looks := false }, kinds := [], alts := [], laidByText := true, laidKinds := [.data, .data, .data, .data, .pinned], laidTests := true, laidLooks := .later }
def ConcertsStayUptoCardSaid : Prop := Claim7.holds Tryz.pinned (.plain (OpenSpec.upto concertsStaySpec)) concertsStayUptoCard
end Rows
end Go.Proofs.YtlkpfhdlfapfhabGreatDoor
