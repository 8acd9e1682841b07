/-
  DERIVED. GIVEN WITH THE SEED: THE CARDS: each row of YtndkkkgkmeijlaaDoorRows.lean that lists a variable, with what it lists TIED to the program's text (the seventh form; the later family's looks); each row that meets fmt, with fmt's text TOLD by the authors' own Lean function (tested against real Go, not proved from fmt's source: count such statements apart). THE CARD IS WHAT COUNTS. Prove the row's statement (the work); the ties are given (YtndkkkgkmeijlaaDoorTie.lean); close each card by the builder's one call (the guide's Derived/Test/ToyasCard.lean, 'card_holds'). Laid BY PROGRAM, IN A SANDBOX (cutbox-door.mjs). By AI agents, Wed Nov 11 2026. No macro, syntax, notation, axiom, sorry.
-/
import Derived.Test.YtndkkkgkmeijlaaDoorRows
import GoSem.ClaimSeven
namespace Go.Proofs.YtndkkkgkmeijlaaDoor
namespace Rows

/-- THE TIED CARD OF 'gleelaw2.ChordsFound'. -/
def chordsFoundCard : Claim7 := { stood := { row := chordsFoundRow, standIns := [], harness := (true, "b420978c233922066fd9db70e8a5bc33ef8b3138949d9ea1c87ac6060d90a6c1"), looks := true }, kinds := [], alts := [], laidByText := true, laidKinds := [.data, .data, .data], laidTests := true, laidLooks := .later }
def ChordsFoundCardSaid : Prop := Claim7.holds Tryd.pinned (.plain (OpenSpec.ofChange chordsFoundSpec)) chordsFoundCard

/-- THE TIED CARD OF 'gleelaw2.VoicesJudged'. -/
def voicesJudgedCard : Claim7 := { stood := { row := voicesJudgedRow, standIns := [], harness := (true, "b420978c233922066fd9db70e8a5bc33ef8b3138949d9ea1c87ac6060d90a6c1"), looks := true }, kinds := [], alts := [], laidByText := true, laidKinds := [.data, .data, .data], laidTests := true, laidLooks := .later }
def VoicesJudgedCardSaid : Prop := Claim7.holds Tryd.pinned (.plain (OpenSpec.ofChange voicesJudgedSpec)) voicesJudgedCard

/-- THE TIED CARD OF 'gleelaw2.ChordsFollow'. -/
def chordsFollowCard : Claim7 := { stood := { row := chordsFollowRow, standIns := [], harness := (true, "b420978c233922066fd9db70e8a5bc33ef8b3138949d9ea1c87ac6060d90a6c1"), looks := true }, kinds := [], alts := [], laidByText := true, laidKinds := [.data, .data, .data], laidTests := true, laidLooks := .later }
def ChordsFollowCardSaid : Prop := Claim7.holds Tryd.pinned (.plain (OpenSpec.ofChange chordsFollowSpec)) chordsFollowCard

/-- THE TIED CARD OF 'gleelaw2.VoicesBest'. -/
def voicesBestCard : Claim7 := { stood := { row := voicesBestRow, standIns := [], harness := (true, "b420978c233922066fd9db70e8a5bc33ef8b3138949d9ea1c87ac6060d90a6c1"), looks := true }, kinds := [], alts := [], laidByText := true, laidKinds := [.data, .data, .data], laidTests := true, laidLooks := .later }
def VoicesBestCardSaid : Prop := Claim7.holds Tryd.pinned (.plain (OpenSpec.ofChange voicesBestSpec)) voicesBestCard

/-- THE TIED CARD OF 'gleelaw2.ChordsNamed'. -/
def chordsNamedCard : Claim7 := { stood := { row := chordsNamedRow, standIns := [], harness := (true, "b420978c233922066fd9db70e8a5bc33ef8b3138949d9ea1c87ac6060d90a6c1"), looks := true }, kinds := [], alts := [], laidByText := true, laidKinds := [.data, .data, .data, .data, .sentinel, .sentinel, .pinned], laidTests := true, laidLooks := .later }
def ChordsNamedCardSaid : Prop := Claim7.holds Tryd.pinned (.plain (OpenSpec.ofChange chordsNamedSpec)) chordsNamedCard

/-- THE SECOND FORM's CARD OF 'gleelaw2.ChordsFound'. -/
def chordsFoundUptoCard : Claim7 := { stood := { row := chordsFoundUptoRow, standIns := [], harness := (true, "b420978c233922066fd9db70e8a5bc33ef8b3138949d9ea1c87ac6060d90a6c1"), looks := true }, kinds := [], alts := [], laidByText := true, laidKinds := [.data, .data, .data], laidTests := true, laidLooks := .later }
def ChordsFoundUptoCardSaid : Prop := Claim7.holds Tryd.pinned (.plain (OpenSpec.upto chordsFoundSpec)) chordsFoundUptoCard

/-- THE SECOND FORM's CARD OF 'gleelaw2.VoicesJudged'. -/
def voicesJudgedUptoCard : Claim7 := { stood := { row := voicesJudgedUptoRow, standIns := [], harness := (true, "b420978c233922066fd9db70e8a5bc33ef8b3138949d9ea1c87ac6060d90a6c1"), looks := true }, kinds := [], alts := [], laidByText := true, laidKinds := [.data, .data, .data], laidTests := true, laidLooks := .later }
def VoicesJudgedUptoCardSaid : Prop := Claim7.holds Tryd.pinned (.plain (OpenSpec.upto voicesJudgedSpec)) voicesJudgedUptoCard

/-- THE SECOND FORM's CARD OF 'gleelaw2.ChordsFollow'. -/
def chordsFollowUptoCard : Claim7 := { stood := { row := chordsFollowUptoRow, standIns := [], harness := (true, "b420978c233922066fd9db70e8a5bc33ef8b3138949d9ea1c87ac6060d90a6c1"), looks := true }, kinds := [], alts := [], laidByText := true, laidKinds := [.data, .data, .data], laidTests := true, laidLooks := .later }
def ChordsFollowUptoCardSaid : Prop := Claim7.holds Tryd.pinned (.plain (OpenSpec.upto chordsFollowSpec)) chordsFollowUptoCard

/-- THE SECOND FORM's CARD OF 'gleelaw2.VoicesBest'. -/
def voicesBestUptoCard : Claim7 := { stood := { row := voicesBestUptoRow, standIns := [], harness := (true, "b420978c233922066fd9db70e8a5bc33ef8b3138949d9ea1c87ac6060d90a6c1"), looks := true }, kinds := [], alts := [], laidByText := true, laidKinds := [.data, .data, .data], laidTests := true, laidLooks := .later }
def VoicesBestUptoCardSaid : Prop := Claim7.holds Tryd.pinned (.plain (OpenSpec.upto voicesBestSpec)) voicesBestUptoCard

/-- THE SECOND FORM's CARD OF 'gleelaw2.ChordsNamed'. -/
def chordsNamedUptoCard : Claim7 := { stood := { row := chordsNamedUptoRow, standIns := [], harness := (true, "b420978c233922066fd9db70e8a5bc33ef8b3138949d9ea1c87ac6060d90a6c1"), looks := true }, kinds := [], alts := [], laidByText := true, laidKinds := [.data, .data, .data, .data, .sentinel, .sentinel, .pinned], laidTests := true, laidLooks := .later }
def ChordsNamedUptoCardSaid : Prop := Claim7.holds Tryd.pinned (.plain (OpenSpec.upto chordsNamedSpec)) chordsNamedUptoCard
end Rows
end Go.Proofs.YtndkkkgkmeijlaaDoor
