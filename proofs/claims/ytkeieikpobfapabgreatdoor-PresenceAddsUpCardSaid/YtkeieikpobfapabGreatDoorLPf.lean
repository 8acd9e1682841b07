/- LPf: what is wrong with wishes, singers, who came, slots: both sides say the same. In plain Lean, no program in sight. -/
import Derived.Test.YtkeieikpobfapabGreatDoorLPe
import Derived.Test.YtkeieikpobfapabGreatDoorLCp
import Derived.Test.YtkeieikpobfapabGreatDoorLRs
import Derived.Test.YtkeieikpobfapabGreatDoorLRd
namespace Go.G
open Go Go.J
set_option linter.unusedSimpArgs false
set_option linter.unusedVariables false
def firstF {α : Type} (f : Nat → α → Int) : Nat → List α → Int
 | _, [] => 0
 | i, x :: t => bif f i x != 0 then f i x else firstF f (i + 1) t
theorem drop_cons {α : Type} {w t : List α} {x : α} {i : Nat} (hd : w.drop i = x :: t) : w[i]? = some x ∧ w.drop (i + 1) = t := by
 constructor
 ·have := congrArg (fun l => l[0]?) hd
  simpa using this
 ·have := congrArg List.tail hd
  simpa [List.tail_drop] using this
noncomputable def cmpSg (p x : TSings) : Int := bif Lib.compareBytes (bytesOf p.Singer) (bytesOf x.Singer) != 0 then Lib.compareBytes (bytesOf p.Singer) (bytesOf x.Singer) else Lib.compareBytes (bytesOf p.Piece) (bytesOf x.Piece)
noncomputable def siF (g : List TSings) (i : Nat) (x : TSings) : Int :=
 bif !(isKey x.Singer && isKey x.Piece && isKey x.Part) then 5 else if i = 0 then 0 else match g[i - 1]? with | some p => (bif cmpSg p x == 0 then 6 else bif decide (cmpSg p x > 0) then 7 else 0) | none => 0
def SiOK (g : List TSings) : Prop := ∀ (i : Nat) x, g[i]? = some x → siF g i x = 0
end Go.G
