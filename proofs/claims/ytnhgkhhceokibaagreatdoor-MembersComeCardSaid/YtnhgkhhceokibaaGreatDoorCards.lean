/-
  DERIVED. GIVEN WITH THE SEED: THE CARDS: each row of YtnhgkhhceokibaaGreatDoorRows.lean that lists a variable, with what it lists TIED to the program's text (the seventh form; the later family's looks); each row that meets fmt, with fmt's text TOLD by the authors' own Lean function (tested against real Go, not proved from fmt's source: count such statements apart). THE CARD IS WHAT COUNTS. Prove the row's statement (the work); the ties are given (YtnhgkhhceokibaaGreatDoorTie.lean); close each card by the builder's one call (the guide's Derived/Test/ToyasCard.lean, 'card_holds'). Laid BY PROGRAM, IN A SANDBOX (cutbox-door.mjs). By AI agents, Wed Nov 11 2026. No macro, syntax, notation, axiom, sorry.
-/
import Derived.Test.YtnhgkhhceokibaaGreatDoorRows
import GoSem.ClaimSeven
namespace Go.Proofs.YtnhgkhhceokibaaGreatDoor
namespace Rows

/-- THE TIED CARD OF 'gleelaw2.MembersCome'. -/
def membersComeCard : Claim7 := { stood := { row := membersComeRow, standIns := [], harness := (true, "28066dfae402aa0b6eb283596da34125f23c261e3a1b069dc971207719015d3a"), looks := false }, kinds := [], alts := [], laidByText := true, laidKinds := [.data, .pinned], laidTests := true, laidLooks := .later }
def MembersComeCardSaid : Prop := Claim7.holds Tryz.pinned (.plain (OpenSpec.ofChange membersComeSpec)) membersComeCard

/-- THE SECOND FORM's CARD OF 'gleelaw2.MembersCome'. -/
def membersComeUptoCard : Claim7 := { stood := { row := membersComeUptoRow, standIns := [], harness := (true, "28066dfae402aa0b6eb283596da34125f23c261e3a1b069dc971207719015d3a"), looks := false }, kinds := [], alts := [], laidByText := true, laidKinds := [.data, .pinned], laidTests := true, laidLooks := .later }
def MembersComeUptoCardSaid : Prop := Claim7.holds Tryz.pinned (.plain (OpenSpec.upto membersComeSpec)) membersComeUptoCard
end Rows
end Go.Proofs.YtnhgkhhceokibaaGreatDoor
