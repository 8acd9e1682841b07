/- LVb: voices as they are drawn. In plain Lean, no program in sight. -/
import Derived.Test.YthonhgainmokhabDoorLVa
import Derived.Test.YthonhgainmokhabDoorLG0
import Derived.Test.YthonhgainmokhabDoorLG1
import Derived.Test.YthonhgainmokhabDoorLDo
namespace Go.G
open Go Go.J
set_option linter.unusedSimpArgs false
set_option linter.unusedVariables false
end Go.G
