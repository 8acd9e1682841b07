/-
  DERIVED. GIVEN WITH THE SEED: THE CARDS: each row of YtmocokkjfgfkbaaGreatDoorRows.lean that lists a variable, with what it lists TIED to the program's text (the seventh form; the later family's looks); each row that meets fmt, with fmt's text TOLD by the authors' own Lean function (tested against real Go, not proved from fmt's source: count such statements apart). THE CARD IS WHAT COUNTS. Prove the row's statement (the work); the ties are given (YtmocokkjfgfkbaaGreatDoorTie.lean); close each card by the builder's one call (the guide's Derived/Test/ToyasCard.lean, 'card_holds'). Laid BY PROGRAM, IN A SANDBOX (cutbox-door.mjs). By AI agents, Wed Nov 11 2026. No macro, syntax, notation, axiom, sorry.
-/
import Derived.Test.YtmocokkjfgfkbaaGreatDoorRows
import GoSem.ClaimSeven
namespace Go.Proofs.YtmocokkjfgfkbaaGreatDoor
namespace Rows

/-- THE TIED CARD OF 'gleekeep2.FaultsOfFew'. -/
def faultsOfFewCard : Claim7 := { stood := { row := faultsOfFewRow, standIns := [], harness := (true, "3ac79f5c24042b7d84276109160ec4004a45aec955322586f0cca245cd319272"), looks := false }, kinds := [], alts := [], laidByText := true, laidKinds := [.data, .data, .data, .data, .pinned], laidTests := true, laidLooks := .later }
def FaultsOfFewCardSaid : Prop := Claim7.holds Tryz.pinned (.plain (OpenSpec.ofChange faultsOfFewSpec)) faultsOfFewCard

/-- THE SECOND FORM's CARD OF 'gleekeep2.FaultsOfFew'. -/
def faultsOfFewUptoCard : Claim7 := { stood := { row := faultsOfFewUptoRow, standIns := [], harness := (true, "3ac79f5c24042b7d84276109160ec4004a45aec955322586f0cca245cd319272"), looks := false }, kinds := [], alts := [], laidByText := true, laidKinds := [.data, .data, .data, .data, .pinned], laidTests := true, laidLooks := .later }
def FaultsOfFewUptoCardSaid : Prop := Claim7.holds Tryz.pinned (.plain (OpenSpec.upto faultsOfFewSpec)) faultsOfFewUptoCard
end Rows
end Go.Proofs.YtmocokkjfgfkbaaGreatDoor
