/- LVb: voices as they are drawn. In plain Lean, no program in sight. -/
import Derived.Test.YthonhgainmokhadGreatDoorLVa
import Derived.Test.YthonhgainmokhadGreatDoorLG0
import Derived.Test.YthonhgainmokhadGreatDoorLG1
import Derived.Test.YthonhgainmokhadGreatDoorLDo
namespace Go.G
open Go Go.J
set_option linter.unusedSimpArgs false
set_option linter.unusedVariables false
end Go.G
