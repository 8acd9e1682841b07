/-
  DERIVED. GIVEN WITH THE SEED: THE CARDS: each row of YtadlgemefhfejaaGreatDoorRows.lean that lists a variable, with what it lists TIED to the program's text (the seventh form; the later family's looks); each row that meets fmt, with fmt's text TOLD by the authors' own Lean function (tested against real Go, not proved from fmt's source: count such statements apart). THE CARD IS WHAT COUNTS. Prove the row's statement (the work); the ties are given (YtadlgemefhfejaaGreatDoorTie.lean); close each card by the builder's one call (the guide's Derived/Test/ToyasCard.lean, 'card_holds'). Laid BY PROGRAM, IN A SANDBOX (cutbox-door.mjs). By AI agents, Wed Nov 11 2026. No macro, syntax, notation, axiom, sorry.
-/
import Derived.Test.YtadlgemefhfejaaGreatDoorRows
import GoSem.ClaimSeven
namespace Go.Proofs.YtadlgemefhfejaaGreatDoor
namespace Rows

/-- THE TIED CARD OF 'gleekeep2.PlansLackLeast'. -/
def plansLackLeastCard : Claim7 := { stood := { row := plansLackLeastRow, standIns := [], harness := (true, "c62d5724e06dd9a7cf0385972424ace43fc9868320b6b93ed79cd2a4f498b81c"), looks := false }, kinds := [], alts := [], laidByText := true, laidKinds := [.data, .data, .data, .data, .pinned], laidTests := true, laidLooks := .later }
def PlansLackLeastCardSaid : Prop := Claim7.holds Tryz.pinned (.plain (OpenSpec.ofChange plansLackLeastSpec)) plansLackLeastCard

/-- THE SECOND FORM's CARD OF 'gleekeep2.PlansLackLeast'. -/
def plansLackLeastUptoCard : Claim7 := { stood := { row := plansLackLeastUptoRow, standIns := [], harness := (true, "c62d5724e06dd9a7cf0385972424ace43fc9868320b6b93ed79cd2a4f498b81c"), looks := false }, kinds := [], alts := [], laidByText := true, laidKinds := [.data, .data, .data, .data, .pinned], laidTests := true, laidLooks := .later }
def PlansLackLeastUptoCardSaid : Prop := Claim7.holds Tryz.pinned (.plain (OpenSpec.upto plansLackLeastSpec)) plansLackLeastUptoCard
end Rows
end Go.Proofs.YtadlgemefhfejaaGreatDoor
