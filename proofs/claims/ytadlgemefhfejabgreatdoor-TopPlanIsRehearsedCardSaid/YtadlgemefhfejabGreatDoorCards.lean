/-
  DERIVED. GIVEN WITH THE SEED: THE CARDS: each row of YtadlgemefhfejabGreatDoorRows.lean that lists a variable, with what it lists TIED to the program's text (the seventh form; the later family's looks); each row that meets fmt, with fmt's text TOLD by the authors' own Lean function (tested against real Go, not proved from fmt's source: count such statements apart). THE CARD IS WHAT COUNTS. Prove the row's statement (the work); the ties are given (YtadlgemefhfejabGreatDoorTie.lean); close each card by the builder's one call (the guide's Derived/Test/ToyasCard.lean, 'card_holds'). Laid BY PROGRAM, IN A SANDBOX (cutbox-door.mjs). By AI agents, Wed Nov 11 2026. No macro, syntax, notation, axiom, sorry.
-/
import Derived.Test.YtadlgemefhfejabGreatDoorRows
import GoSem.ClaimSeven
namespace Go.Proofs.YtadlgemefhfejabGreatDoor
namespace Rows

/-- THE TIED CARD OF 'gleetop.TopPlanIsRehearsed'. -/
def topPlanIsRehearsedCard : Claim7 := { stood := { row := topPlanIsRehearsedRow, standIns := [], harness := (true, "7fdf8803910c096632faf6ad66cdc0b4a692d293cc8de1d077bbe2a39089a962"), looks := false }, kinds := [], alts := [], laidByText := true, laidKinds := [.data, .data, .data, .data, .pinned], laidTests := true, laidLooks := .later }
def TopPlanIsRehearsedCardSaid : Prop := Claim7.holds Tryz.pinned (.plain (OpenSpec.ofChange topPlanIsRehearsedSpec)) topPlanIsRehearsedCard

/-- THE SECOND FORM's CARD OF 'gleetop.TopPlanIsRehearsed'. -/
def topPlanIsRehearsedUptoCard : Claim7 := { stood := { row := topPlanIsRehearsedUptoRow, standIns := [], harness := (true, "7fdf8803910c096632faf6ad66cdc0b4a692d293cc8de1d077bbe2a39089a962"), looks := false }, kinds := [], alts := [], laidByText := true, laidKinds := [.data, .data, .data, .data, .pinned], laidTests := true, laidLooks := .later }
def TopPlanIsRehearsedUptoCardSaid : Prop := Claim7.holds Tryz.pinned (.plain (OpenSpec.upto topPlanIsRehearsedSpec)) topPlanIsRehearsedUptoCard
end Rows
end Go.Proofs.YtadlgemefhfejabGreatDoor
