/- LQ1: programs of concerts: when items begin. In plain Lean, no program in sight. -/
import Derived.Test.YtlkpfhdlfapfhadGreatDoorLQ0
namespace Go.G
open Go Go.J
end Go.G
