/- LR1f: the packages do something: what 'ready' asks is so (the club's maps as they are). In plain Lean, no program in sight. -/
import Derived.Test.YtlkpfhdlfapfhadGreatDoorLY6
import Derived.Test.YtlkpfhdlfapfhadGreatDoorLQ1
import Derived.Lib.ItoaMem
namespace Go.G
open Go Go.J
end Go.G
