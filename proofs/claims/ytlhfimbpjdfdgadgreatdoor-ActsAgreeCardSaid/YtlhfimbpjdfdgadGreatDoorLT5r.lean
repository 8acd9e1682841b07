/- LT5r: the reference writes numbers. In plain Lean, no program in sight. -/
import Derived.Test.YtlhfimbpjdfdgadGreatDoorLT5
import Derived.Test.YtlhfimbpjdfdgadGreatDoorLS1
namespace Go.G
open Go Go.J
set_option linter.unusedSimpArgs false
set_option linter.unusedVariables false
end Go.G
