/- LY1: what the reference finds wrong with an act by itself: the same. In plain Lean, no program in sight. -/
import Derived.Test.YtlkpfhdlfapfhaaGreatDoorLY0
import Derived.Test.YtlkpfhdlfapfhaaGreatDoorLM
namespace Go.G
open Go Go.J
set_option linter.unusedSimpArgs false
end Go.G
