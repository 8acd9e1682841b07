/-
  DERIVED. GIVEN WITH THE SEED: THE CARDS: each row of YtnmaaiejcmgdkaaDoorRows.lean that lists a variable, with what it lists TIED to the program's text (the seventh form; the later family's looks); each row that meets fmt, with fmt's text TOLD by the authors' own Lean function (tested against real Go, not proved from fmt's source: count such statements apart). THE CARD IS WHAT COUNTS. Prove the row's statement (the work); the ties are given (YtnmaaiejcmgdkaaDoorTie.lean); close each card by the builder's one call (the guide's Derived/Test/ToyasCard.lean, 'card_holds'). Laid BY PROGRAM, IN A SANDBOX (cutbox-door.mjs). By AI agents, Wed Nov 11 2026. No macro, syntax, notation, axiom, sorry.
-/
import Derived.Test.YtnmaaiejcmgdkaaDoorRows
import GoSem.ClaimSeven
namespace Go.Proofs.YtnmaaiejcmgdkaaDoor
namespace Rows

/-- THE TIED CARD OF 'gleelaw2.TonesFill'. -/
def tonesFillCard : Claim7 := { stood := { row := tonesFillRow, standIns := [], harness := (true, "658f4ffdc6942a8c67fb367e0c835c6ac1188b7ecb5315f5cd9d45fd3729defb"), looks := false }, kinds := [], alts := [], laidByText := true, laidKinds := [.data, .pinned], laidTests := true, laidLooks := .later }
def TonesFillCardSaid : Prop := Claim7.holds Tryd.pinned (.plain (OpenSpec.ofChange tonesFillSpec)) tonesFillCard

/-- THE TIED CARD OF 'gleelaw2.TonesSound'. -/
def tonesSoundCard : Claim7 := { stood := { row := tonesSoundRow, standIns := [], harness := (true, "658f4ffdc6942a8c67fb367e0c835c6ac1188b7ecb5315f5cd9d45fd3729defb"), looks := false }, kinds := [], alts := [], laidByText := true, laidKinds := [.data, .pinned], laidTests := true, laidLooks := .later }
def TonesSoundCardSaid : Prop := Claim7.holds Tryd.pinned (.plain (OpenSpec.ofChange tonesSoundSpec)) tonesSoundCard

/-- THE SECOND FORM's CARD OF 'gleelaw2.TonesFill'. -/
def tonesFillUptoCard : Claim7 := { stood := { row := tonesFillUptoRow, standIns := [], harness := (true, "658f4ffdc6942a8c67fb367e0c835c6ac1188b7ecb5315f5cd9d45fd3729defb"), looks := false }, kinds := [], alts := [], laidByText := true, laidKinds := [.data, .pinned], laidTests := true, laidLooks := .later }
def TonesFillUptoCardSaid : Prop := Claim7.holds Tryd.pinned (.plain (OpenSpec.upto tonesFillSpec)) tonesFillUptoCard

/-- THE SECOND FORM's CARD OF 'gleelaw2.TonesSound'. -/
def tonesSoundUptoCard : Claim7 := { stood := { row := tonesSoundUptoRow, standIns := [], harness := (true, "658f4ffdc6942a8c67fb367e0c835c6ac1188b7ecb5315f5cd9d45fd3729defb"), looks := false }, kinds := [], alts := [], laidByText := true, laidKinds := [.data, .pinned], laidTests := true, laidLooks := .later }
def TonesSoundUptoCardSaid : Prop := Claim7.holds Tryd.pinned (.plain (OpenSpec.upto tonesSoundSpec)) tonesSoundUptoCard
end Rows
end Go.Proofs.YtnmaaiejcmgdkaaDoor
