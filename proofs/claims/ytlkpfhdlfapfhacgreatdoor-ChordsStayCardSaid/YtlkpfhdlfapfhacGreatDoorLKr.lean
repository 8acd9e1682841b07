/- LKr: keys as the reference has them. In plain Lean, no program in sight. -/
import Derived.Test.YtlkpfhdlfapfhacGreatDoorLQ0
namespace Go.G
open Go Go.J
end Go.G
