/- LVb: voices as they are drawn. In plain Lean, no program in sight. -/
import Derived.Test.YthonhgainmokhacGreatDoorLVa
import Derived.Test.YthonhgainmokhacGreatDoorLG0
import Derived.Test.YthonhgainmokhacGreatDoorLG1
import Derived.Test.YthonhgainmokhacGreatDoorLDo
namespace Go.G
open Go Go.J
set_option linter.unusedSimpArgs false
set_option linter.unusedVariables false
end Go.G
