/- LU3: tones in bars, as they are played, joined, and their range, in plain Lean. No program in sight. -/
import Derived.Test.YtmocokkjfgfkbadGreatDoorLU2
namespace Go.G
open Go Go.J
set_option linter.unusedSimpArgs false
end Go.G
