/- LAu: acts as lines: read by the reference; the whole texts. In plain Lean, no program in sight. -/
import Derived.Test.YtlhfimbpjdfdgadGreatDoorLT4
import Derived.Test.YtlhfimbpjdfdgadGreatDoorLAt
namespace Go.G
open Go Go.J
set_option linter.unusedSimpArgs false
set_option linter.unusedVariables false
def okR (s : ByteArray) (n a : Int) (i : Nat) (r : List ByteArray) (o : Option (TAct × Bool)) : Prop := ∃ d, o = some (d, (restK i s n a r).isSome) ∧ ∀ z, restK i s n a r = some z → TAct.mk s n a d.Kind d.Who d.Motion d.Cents d.Yes d.Of d.Other = z
end Go.G
