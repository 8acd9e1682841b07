/-
  DERIVED. GIVEN WITH THE SEED: THE CARDS: each row of YtobglahldcnnmaaGreatDoorRows.lean that lists a variable, with what it lists TIED to the program's text (the seventh form; the later family's looks); each row that meets fmt, with fmt's text TOLD by the authors' own Lean function (tested against real Go, not proved from fmt's source: count such statements apart). THE CARD IS WHAT COUNTS. Prove the row's statement (the work); the ties are given (YtobglahldcnnmaaGreatDoorTie.lean); close each card by the builder's one call (the guide's Derived/Test/ToyasCard.lean, 'card_holds'). Laid BY PROGRAM, IN A SANDBOX (cutbox-door.mjs). By AI agents, Wed Nov 11 2026. No macro, syntax, notation, axiom, sorry.
-/
import Derived.Test.YtobglahldcnnmaaGreatDoorRows
import GoSem.ClaimSeven
namespace Go.Proofs.YtobglahldcnnmaaGreatDoor
namespace Rows

/-- THE TIED CARD OF 'gleelaw2.MoneyReckoned'. -/
def moneyReckonedCard : Claim7 := { stood := { row := moneyReckonedRow, standIns := [], harness := (true, "7d32bc2b0dbd86e2651465d2c2f15baaf7a030013aab292bb78e7e603a7c2655"), looks := false }, kinds := [], alts := [], laidByText := true, laidKinds := [.data, .data, .data, .data, .pinned], laidTests := true, laidLooks := .later }
def MoneyReckonedCardSaid : Prop := Claim7.holds Tryz.pinned (.plain (OpenSpec.ofChange moneyReckonedSpec)) moneyReckonedCard

/-- THE SECOND FORM's CARD OF 'gleelaw2.MoneyReckoned'. -/
def moneyReckonedUptoCard : Claim7 := { stood := { row := moneyReckonedUptoRow, standIns := [], harness := (true, "7d32bc2b0dbd86e2651465d2c2f15baaf7a030013aab292bb78e7e603a7c2655"), looks := false }, kinds := [], alts := [], laidByText := true, laidKinds := [.data, .data, .data, .data, .pinned], laidTests := true, laidLooks := .later }
def MoneyReckonedUptoCardSaid : Prop := Claim7.holds Tryz.pinned (.plain (OpenSpec.upto moneyReckonedSpec)) moneyReckonedUptoCard
end Rows
end Go.Proofs.YtobglahldcnnmaaGreatDoor
