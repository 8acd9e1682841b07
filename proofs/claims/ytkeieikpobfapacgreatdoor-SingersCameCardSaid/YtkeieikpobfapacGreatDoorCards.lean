/-
  DERIVED. GIVEN WITH THE SEED: THE CARDS: each row of YtkeieikpobfapacGreatDoorRows.lean that lists a variable, with what it lists TIED to the program's text (the seventh form; the later family's looks); each row that meets fmt, with fmt's text TOLD by the authors' own Lean function (tested against real Go, not proved from fmt's source: count such statements apart). THE CARD IS WHAT COUNTS. Prove the row's statement (the work); the ties are given (YtkeieikpobfapacGreatDoorTie.lean); close each card by the builder's one call (the guide's Derived/Test/ToyasCard.lean, 'card_holds'). Laid BY PROGRAM, IN A SANDBOX (cutbox-door.mjs). By AI agents, Wed Nov 11 2026. No macro, syntax, notation, axiom, sorry.
-/
import Derived.Test.YtkeieikpobfapacGreatDoorRows
import GoSem.ClaimSeven
namespace Go.Proofs.YtkeieikpobfapacGreatDoor
namespace Rows

/-- THE TIED CARD OF 'gleelaw2.SingersCame'. -/
def singersCameCard : Claim7 := { stood := { row := singersCameRow, standIns := [], harness := (true, "db44c2bec6d16c543235d9292a424a5e974cfb7e7123b1efdf50917f7f8ed482"), looks := false }, kinds := [], alts := [], laidByText := true, laidKinds := [.data, .pinned], laidTests := true, laidLooks := .later }
def SingersCameCardSaid : Prop := Claim7.holds Tryz.pinned (.plain (OpenSpec.ofChange singersCameSpec)) singersCameCard

/-- THE SECOND FORM's CARD OF 'gleelaw2.SingersCame'. -/
def singersCameUptoCard : Claim7 := { stood := { row := singersCameUptoRow, standIns := [], harness := (true, "db44c2bec6d16c543235d9292a424a5e974cfb7e7123b1efdf50917f7f8ed482"), looks := false }, kinds := [], alts := [], laidByText := true, laidKinds := [.data, .pinned], laidTests := true, laidLooks := .later }
def SingersCameUptoCardSaid : Prop := Claim7.holds Tryz.pinned (.plain (OpenSpec.upto singersCameSpec)) singersCameUptoCard
end Rows
end Go.Proofs.YtkeieikpobfapacGreatDoor
