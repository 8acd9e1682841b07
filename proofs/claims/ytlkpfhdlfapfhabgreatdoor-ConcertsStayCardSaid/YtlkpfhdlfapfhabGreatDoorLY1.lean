/- LY1: what the reference finds wrong with an act by itself: the same. In plain Lean, no program in sight. -/
import Derived.Test.YtlkpfhdlfapfhabGreatDoorLY0
import Derived.Test.YtlkpfhdlfapfhabGreatDoorLM
namespace Go.G
open Go Go.J
set_option linter.unusedSimpArgs false
end Go.G
