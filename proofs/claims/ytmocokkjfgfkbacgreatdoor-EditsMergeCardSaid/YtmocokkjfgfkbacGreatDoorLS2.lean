/- LS2: insertion sort, exactly: what it yields, and that it is in order. No program in sight. -/
import Derived.Test.YtmocokkjfgfkbacGreatDoorLS1
namespace Go.G
open Go Go.J
set_option linter.unusedSimpArgs false
section
variable {α : Type} (lt : α → α → Bool)
/-- into a list that falls -/
def insRev : List α → α → List α
  | [], x => [x]
  | y :: t, x => bif lt x y then y :: insRev t x else x :: y :: t
def ins (p : List α) (x : α) : List α := (insRev lt p.reverse x).reverse
/-! ### in order -/
end
end Go.G
