/-
  DERIVED. GIVEN WITH THE SEED: THE CARDS: each row of YtdeoejkgmeemaabGreatDoorRows.lean that lists a variable, with what it lists TIED to the program's text (the seventh form; the later family's looks); each row that meets fmt, with fmt's text TOLD by the authors' own Lean function (tested against real Go, not proved from fmt's source: count such statements apart). THE CARD IS WHAT COUNTS. Prove the row's statement (the work); the ties are given (YtdeoejkgmeemaabGreatDoorTie.lean); close each card by the builder's one call (the guide's Derived/Test/ToyasCard.lean, 'card_holds'). Laid BY PROGRAM, IN A SANDBOX (cutbox-door.mjs). By AI agents, Wed Nov 11 2026. No macro, syntax, notation, axiom, sorry.
-/
import Derived.Test.YtdeoejkgmeemaabGreatDoorRows
import GoSem.ClaimSeven
namespace Go.Proofs.YtdeoejkgmeemaabGreatDoor
namespace Rows

/-- THE TIED CARD OF 'gleekeep2.OrdersAreShortest'. -/
def ordersAreShortestCard : Claim7 := { stood := { row := ordersAreShortestRow, standIns := [], harness := (true, "27d4de3aad7e064f5d7444bd85cae151ad76dbef34b40dd1c72c0849d33f3f7f"), looks := false }, kinds := [], alts := [], laidByText := true, laidKinds := [.data, .data, .data, .data, .pinned], laidTests := true, laidLooks := .later }
def OrdersAreShortestCardSaid : Prop := Claim7.holds Tryz.pinned (.plain (OpenSpec.ofChange ordersAreShortestSpec)) ordersAreShortestCard

/-- THE SECOND FORM's CARD OF 'gleekeep2.OrdersAreShortest'. -/
def ordersAreShortestUptoCard : Claim7 := { stood := { row := ordersAreShortestUptoRow, standIns := [], harness := (true, "27d4de3aad7e064f5d7444bd85cae151ad76dbef34b40dd1c72c0849d33f3f7f"), looks := false }, kinds := [], alts := [], laidByText := true, laidKinds := [.data, .data, .data, .data, .pinned], laidTests := true, laidLooks := .later }
def OrdersAreShortestUptoCardSaid : Prop := Claim7.holds Tryz.pinned (.plain (OpenSpec.upto ordersAreShortestSpec)) ordersAreShortestUptoCard
end Rows
end Go.Proofs.YtdeoejkgmeemaabGreatDoor
