/-
  DERIVED. GIVEN WITH THE SEED: THE CARDS: each row of YtkeieikpobfapabGreatDoorRows.lean that lists a variable, with what it lists TIED to the program's text (the seventh form; the later family's looks); each row that meets fmt, with fmt's text TOLD by the authors' own Lean function (tested against real Go, not proved from fmt's source: count such statements apart). THE CARD IS WHAT COUNTS. Prove the row's statement (the work); the ties are given (YtkeieikpobfapabGreatDoorTie.lean); close each card by the builder's one call (the guide's Derived/Test/ToyasCard.lean, 'card_holds'). Laid BY PROGRAM, IN A SANDBOX (cutbox-door.mjs). By AI agents, Wed Nov 11 2026. No macro, syntax, notation, axiom, sorry.
-/
import Derived.Test.YtkeieikpobfapabGreatDoorRows
import GoSem.ClaimSeven
namespace Go.Proofs.YtkeieikpobfapabGreatDoor
namespace Rows

/-- THE TIED CARD OF 'gleekeep2.PresenceAddsUp'. -/
def presenceAddsUpCard : Claim7 := { stood := { row := presenceAddsUpRow, standIns := [], harness := (true, "edd379b5b0b937cf0e7575b2f213c0df7c480e673365e1037e685ac289d11044"), looks := false }, kinds := [], alts := [], laidByText := true, laidKinds := [.data, .data, .data, .data, .pinned], laidTests := true, laidLooks := .later }
def PresenceAddsUpCardSaid : Prop := Claim7.holds Tryz.pinned (.plain (OpenSpec.ofChange presenceAddsUpSpec)) presenceAddsUpCard

/-- THE SECOND FORM's CARD OF 'gleekeep2.PresenceAddsUp'. -/
def presenceAddsUpUptoCard : Claim7 := { stood := { row := presenceAddsUpUptoRow, standIns := [], harness := (true, "edd379b5b0b937cf0e7575b2f213c0df7c480e673365e1037e685ac289d11044"), looks := false }, kinds := [], alts := [], laidByText := true, laidKinds := [.data, .data, .data, .data, .pinned], laidTests := true, laidLooks := .later }
def PresenceAddsUpUptoCardSaid : Prop := Claim7.holds Tryz.pinned (.plain (OpenSpec.upto presenceAddsUpSpec)) presenceAddsUpUptoCard
end Rows
end Go.Proofs.YtkeieikpobfapabGreatDoor
