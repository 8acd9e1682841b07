/-
  DERIVED. GIVEN WITH THE SEED: THE CARDS: each row of YtdampgmepdccdaaGreatDoorRows.lean that lists a variable, with what it lists TIED to the program's text (the seventh form; the later family's looks); each row that meets fmt, with fmt's text TOLD by the authors' own Lean function (tested against real Go, not proved from fmt's source: count such statements apart). THE CARD IS WHAT COUNTS. Prove the row's statement (the work); the ties are given (YtdampgmepdccdaaGreatDoorTie.lean); close each card by the builder's one call (the guide's Derived/Test/ToyasCard.lean, 'card_holds'). Laid BY PROGRAM, IN A SANDBOX (cutbox-door.mjs). By AI agents, Wed Nov 11 2026. No macro, syntax, notation, axiom, sorry.
-/
import Derived.Test.YtdampgmepdccdaaGreatDoorRows
import GoSem.ClaimSeven
namespace Go.Proofs.YtdampgmepdccdaaGreatDoor
namespace Rows

/-- THE TIED CARD OF 'gleekeep2.MoneyAddsUp'. -/
def moneyAddsUpCard : Claim7 := { stood := { row := moneyAddsUpRow, standIns := [], harness := (true, "3098f7b8220aa742ffe1bb337996fa2a279b7a2063faf51871ff5924b1951309"), looks := false }, kinds := [], alts := [], laidByText := true, laidKinds := [.data, .data, .data, .data, .pinned], laidTests := true, laidLooks := .later }
def MoneyAddsUpCardSaid : Prop := Claim7.holds Tryz.pinned (.plain (OpenSpec.ofChange moneyAddsUpSpec)) moneyAddsUpCard

/-- THE SECOND FORM's CARD OF 'gleekeep2.MoneyAddsUp'. -/
def moneyAddsUpUptoCard : Claim7 := { stood := { row := moneyAddsUpUptoRow, standIns := [], harness := (true, "3098f7b8220aa742ffe1bb337996fa2a279b7a2063faf51871ff5924b1951309"), looks := false }, kinds := [], alts := [], laidByText := true, laidKinds := [.data, .data, .data, .data, .pinned], laidTests := true, laidLooks := .later }
def MoneyAddsUpUptoCardSaid : Prop := Claim7.holds Tryz.pinned (.plain (OpenSpec.upto moneyAddsUpSpec)) moneyAddsUpUptoCard
end Rows
end Go.Proofs.YtdampgmepdccdaaGreatDoor
