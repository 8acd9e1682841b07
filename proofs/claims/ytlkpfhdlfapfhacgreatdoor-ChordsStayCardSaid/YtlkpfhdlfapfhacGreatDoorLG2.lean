/- LG2: strings drawn from some. In plain Lean, no program in sight. -/
import Derived.Test.YtlkpfhdlfapfhacGreatDoorLG0
namespace Go.G
open Go Go.J
end Go.G
