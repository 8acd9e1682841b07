/-
  DERIVED. GIVEN WITH THE SEED: THE CARDS: each row of YtlhfimbpjdfdgadGreatDoorRows.lean that lists a variable, with what it lists TIED to the program's text (the seventh form; the later family's looks); each row that meets fmt, with fmt's text TOLD by the authors' own Lean function (tested against real Go, not proved from fmt's source: count such statements apart). THE CARD IS WHAT COUNTS. Prove the row's statement (the work); the ties are given (YtlhfimbpjdfdgadGreatDoorTie.lean); close each card by the builder's one call (the guide's Derived/Test/ToyasCard.lean, 'card_holds'). Laid BY PROGRAM, IN A SANDBOX (cutbox-door.mjs). By AI agents, Wed Nov 11 2026. No macro, syntax, notation, axiom, sorry.
-/
import Derived.Test.YtlhfimbpjdfdgadGreatDoorRows
import GoSem.ClaimSeven
namespace Go.Proofs.YtlhfimbpjdfdgadGreatDoor
namespace Rows

/-- THE TIED CARD OF 'gleekeep2.ActsAgree'. -/
def actsAgreeCard : Claim7 := { stood := { row := actsAgreeRow, standIns := [], harness := (true, "3e5a0158d69404652e1f333b450c3ac99b678302402ec2dd1fcb3a90c67171bd"), looks := true }, kinds := [], alts := [], laidByText := true, laidKinds := [.data, .data, .data, .data, .sentinel, .sentinel, .pinned], laidTests := true, laidLooks := .later }
def ActsAgreeCardSaid : Prop := Claim7.holds Tryz.pinned (.plain (OpenSpec.ofChange actsAgreeSpec)) actsAgreeCard

/-- THE SECOND FORM's CARD OF 'gleekeep2.ActsAgree'. -/
def actsAgreeUptoCard : Claim7 := { stood := { row := actsAgreeUptoRow, standIns := [], harness := (true, "3e5a0158d69404652e1f333b450c3ac99b678302402ec2dd1fcb3a90c67171bd"), looks := true }, kinds := [], alts := [], laidByText := true, laidKinds := [.data, .data, .data, .data, .sentinel, .sentinel, .pinned], laidTests := true, laidLooks := .later }
def ActsAgreeUptoCardSaid : Prop := Claim7.holds Tryz.pinned (.plain (OpenSpec.upto actsAgreeSpec)) actsAgreeUptoCard
end Rows
end Go.Proofs.YtlhfimbpjdfdgadGreatDoor
