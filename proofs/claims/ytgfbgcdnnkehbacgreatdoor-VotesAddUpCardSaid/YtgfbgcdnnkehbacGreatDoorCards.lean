/-
  DERIVED. GIVEN WITH THE SEED: THE CARDS: each row of YtgfbgcdnnkehbacGreatDoorRows.lean that lists a variable, with what it lists TIED to the program's text (the seventh form; the later family's looks); each row that meets fmt, with fmt's text TOLD by the authors' own Lean function (tested against real Go, not proved from fmt's source: count such statements apart). THE CARD IS WHAT COUNTS. Prove the row's statement (the work); the ties are given (YtgfbgcdnnkehbacGreatDoorTie.lean); close each card by the builder's one call (the guide's Derived/Test/ToyasCard.lean, 'card_holds'). Laid BY PROGRAM, IN A SANDBOX (cutbox-door.mjs). By AI agents, Wed Nov 11 2026. No macro, syntax, notation, axiom, sorry.
-/
import Derived.Test.YtgfbgcdnnkehbacGreatDoorRows
import GoSem.ClaimSeven
namespace Go.Proofs.YtgfbgcdnnkehbacGreatDoor
namespace Rows

/-- THE TIED CARD OF 'gleekeep2.VotesAddUp'. -/
def votesAddUpCard : Claim7 := { stood := { row := votesAddUpRow, standIns := [], harness := (true, "3ade8df03d77dcbcd0636c8495e49e0316490ac51e2e9ba6ed490469aa823a8c"), looks := false }, kinds := [], alts := [], laidByText := true, laidKinds := [.data, .data, .data, .data, .pinned], laidTests := true, laidLooks := .later }
def VotesAddUpCardSaid : Prop := Claim7.holds Tryz.pinned (.plain (OpenSpec.ofChange votesAddUpSpec)) votesAddUpCard

/-- THE SECOND FORM's CARD OF 'gleekeep2.VotesAddUp'. -/
def votesAddUpUptoCard : Claim7 := { stood := { row := votesAddUpUptoRow, standIns := [], harness := (true, "3ade8df03d77dcbcd0636c8495e49e0316490ac51e2e9ba6ed490469aa823a8c"), looks := false }, kinds := [], alts := [], laidByText := true, laidKinds := [.data, .data, .data, .data, .pinned], laidTests := true, laidLooks := .later }
def VotesAddUpUptoCardSaid : Prop := Claim7.holds Tryz.pinned (.plain (OpenSpec.upto votesAddUpSpec)) votesAddUpUptoCard
end Rows
end Go.Proofs.YtgfbgcdnnkehbacGreatDoor
