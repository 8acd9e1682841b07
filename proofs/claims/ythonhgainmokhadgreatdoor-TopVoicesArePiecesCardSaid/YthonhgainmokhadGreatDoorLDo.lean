/- LDo: numbers drawn that are nearly always within a range. In plain Lean, no program in sight. -/
import Derived.Test.YthonhgainmokhadGreatDoorLDr
namespace Go.G
open Go Go.J
end Go.G
