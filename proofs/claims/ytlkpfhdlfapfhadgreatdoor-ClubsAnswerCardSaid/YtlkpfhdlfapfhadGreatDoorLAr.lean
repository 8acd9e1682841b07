/- LAr: right acts of a club, as they are drawn. In plain Lean, no program in sight. -/
import Derived.Test.YtlkpfhdlfapfhadGreatDoorLAc
import Derived.Test.YtlkpfhdlfapfhadGreatDoorLY6
namespace Go.G
open Go Go.J
end Go.G
