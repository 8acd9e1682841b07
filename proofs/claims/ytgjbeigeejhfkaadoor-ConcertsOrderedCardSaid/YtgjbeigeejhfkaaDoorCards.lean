/-
  DERIVED. GIVEN WITH THE SEED: THE CARDS: each row of YtgjbeigeejhfkaaDoorRows.lean that lists a variable, with what it lists TIED to the program's text (the seventh form; the later family's looks); each row that meets fmt, with fmt's text TOLD by the authors' own Lean function (tested against real Go, not proved from fmt's source: count such statements apart). THE CARD IS WHAT COUNTS. Prove the row's statement (the work); the ties are given (YtgjbeigeejhfkaaDoorTie.lean); close each card by the builder's one call (the guide's Derived/Test/ToyasCard.lean, 'card_holds'). Laid BY PROGRAM, IN A SANDBOX (cutbox-door.mjs). By AI agents, Wed Nov 11 2026. No macro, syntax, notation, axiom, sorry.
-/
import Derived.Test.YtgjbeigeejhfkaaDoorRows
import GoSem.ClaimSeven
namespace Go.Proofs.YtgjbeigeejhfkaaDoor
namespace Rows

/-- THE TIED CARD OF 'gleelaw2.ConcertsOrdered'. -/
def concertsOrderedCard : Claim7 := { stood := { row := concertsOrderedRow, standIns := [], harness := (true, "37b838958c884558401e642aa1227a9a8a14288ed13cfb464f492723e1c37a9a"), looks := false }, kinds := [], alts := [], laidByText := true, laidKinds := [.data, .pinned], laidTests := true, laidLooks := .later }
def ConcertsOrderedCardSaid : Prop := Claim7.holds Tryd.pinned (.plain (OpenSpec.ofChange concertsOrderedSpec)) concertsOrderedCard

/-- THE SECOND FORM's CARD OF 'gleelaw2.ConcertsOrdered'. -/
def concertsOrderedUptoCard : Claim7 := { stood := { row := concertsOrderedUptoRow, standIns := [], harness := (true, "37b838958c884558401e642aa1227a9a8a14288ed13cfb464f492723e1c37a9a"), looks := false }, kinds := [], alts := [], laidByText := true, laidKinds := [.data, .pinned], laidTests := true, laidLooks := .later }
def ConcertsOrderedUptoCardSaid : Prop := Claim7.holds Tryd.pinned (.plain (OpenSpec.upto concertsOrderedSpec)) concertsOrderedUptoCard
end Rows
end Go.Proofs.YtgjbeigeejhfkaaDoor
