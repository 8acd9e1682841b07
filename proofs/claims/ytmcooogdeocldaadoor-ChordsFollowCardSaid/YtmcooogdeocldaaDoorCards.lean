/-
  DERIVED. GIVEN WITH THE SEED: THE CARDS: each row of YtmcooogdeocldaaDoorRows.lean that lists a variable, with what it lists TIED to the program's text (the seventh form; the later family's looks); each row that meets fmt, with fmt's text TOLD by the authors' own Lean function (tested against real Go, not proved from fmt's source: count such statements apart). THE CARD IS WHAT COUNTS. Prove the row's statement (the work); the ties are given (YtmcooogdeocldaaDoorTie.lean); close each card by the builder's one call (the guide's Derived/Test/ToyasCard.lean, 'card_holds'). Laid BY PROGRAM, IN A SANDBOX (cutbox-door.mjs). By AI agents, Wed Nov 11 2026. No macro, syntax, notation, axiom, sorry.
-/
import Derived.Test.YtmcooogdeocldaaDoorRows
import GoSem.ClaimSeven
namespace Go.Proofs.YtmcooogdeocldaaDoor
namespace Rows

/-- THE TIED CARD OF 'gleelaw2.ChordsFollow'. -/
def chordsFollowCard : Claim7 := { stood := { row := chordsFollowRow, standIns := [], harness := (true, "c7c1f5a71ca127d381ae1c5598f83588c12a2a68f31b8b9b9512bb27dba948c3"), looks := false }, kinds := [], alts := [], laidByText := true, laidKinds := [.data, .data, .data], laidTests := true, laidLooks := .later }
def ChordsFollowCardSaid : Prop := Claim7.holds Tryd.pinned (.plain (OpenSpec.ofChange chordsFollowSpec)) chordsFollowCard

/-- THE SECOND FORM's CARD OF 'gleelaw2.ChordsFollow'. -/
def chordsFollowUptoCard : Claim7 := { stood := { row := chordsFollowUptoRow, standIns := [], harness := (true, "c7c1f5a71ca127d381ae1c5598f83588c12a2a68f31b8b9b9512bb27dba948c3"), looks := false }, kinds := [], alts := [], laidByText := true, laidKinds := [.data, .data, .data], laidTests := true, laidLooks := .later }
def ChordsFollowUptoCardSaid : Prop := Claim7.holds Tryd.pinned (.plain (OpenSpec.upto chordsFollowSpec)) chordsFollowUptoCard
end Rows
end Go.Proofs.YtmcooogdeocldaaDoor
