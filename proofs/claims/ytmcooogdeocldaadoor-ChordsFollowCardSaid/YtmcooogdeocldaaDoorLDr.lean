/- LDr: drawing, step by step, with nothing but where the drawing stands. In plain Lean, no program in sight. -/
import Derived.Test.YtmcooogdeocldaaDoorLG1
import Derived.Test.YtmcooogdeocldaaDoorLG2
namespace Go.G
open Go Go.J
def OKp (k p : Int) : Prop := 0 ≤ p ∧ p ≤ k
section
variable {β : Type} {Q : β → Prop} {L : List Int} {k p n : Int}
end
end Go.G
